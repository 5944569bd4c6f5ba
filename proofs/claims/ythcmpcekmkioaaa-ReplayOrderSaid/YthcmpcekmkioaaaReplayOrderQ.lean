/-
  ReplayOrder: for every input the law returns true, and each argument reads behind the call as it read before. No condition.
-/
import Derived.Deep.DeepCutAuto
import Derived.Lib.Overlaps
import Derived.Lib.AppendZeros
import Derived.Laws.Externs
import Derived.Deep.RegionLaw
import Derived.Maps.RangeWalk
import Derived.Test.YthcmpcekmkioaaaB10
namespace Go.Proofs.Ythcmpcekmkioaaa
open Go.ChangeShapes Go.WideShapes Go.RowKit Go.Deep
def Ev.wf (a : Ev) : Prop := (Lit.int .i64 a.kind).wf = true ∧ (Lit.int .i64 a.day).wf = true ∧ (Lit.int .i64 a.tranche).wf = true ∧ (Lit.int .i64 a.amount).wf = true ∧ (Lit.int .i64 a.ref).wf = true
set_option maxRecDepth 100000 in
theorem open_Ev {H : Type} {enc : TypeId × Value → H} {w : World} {spare : Nat → Bool} {held : Bool} (n : Nat) (cs : List Value) (d : DataW H × List MemPlace) (h : DataW.trod enc Try.prog w 0 spare held n 54 cs = some d) : ∃ a : Ev, cs = a.cells ∧ a.wf := by
 obtain ⟨xs, m, rfl, _, hlen, hxs, hf⟩ := DataW.trod_struct Try.underlying54 h
 have hl : cs.length = 5 := hlen.trans (by kernel_rfl)
 have hx : xs.length = 5 := hxs
 have g0 := hf 0 _ rfl
 rw [show Try.prog.cellsOf _ = 1 from by kernel_rfl, List.getElem?_eq_getElem (show 0 < xs.length by omega)] at g0
 have g1 := hf 1 _ rfl
 rw [show Try.prog.cellsOf _ = 1 from by kernel_rfl, List.getElem?_eq_getElem (show 1 < xs.length by omega)] at g1
 have g2 := hf 2 _ rfl
 rw [show Try.prog.cellsOf _ = 1 from by kernel_rfl, List.getElem?_eq_getElem (show 2 < xs.length by omega)] at g2
 have g3 := hf 3 _ rfl
 rw [show Try.prog.cellsOf _ = 1 from by kernel_rfl, List.getElem?_eq_getElem (show 3 < xs.length by omega)] at g3
 have g4 := hf 4 _ rfl
 rw [show Try.prog.cellsOf _ = 1 from by kernel_rfl, List.getElem?_eq_getElem (show 4 < xs.length by omega)] at g4
 match cs, hl with
 | [c0, c1, c2, c3, c4], _ =>
  obtain ⟨a0, e0, _, w0⟩ := DataW.trod_int Try.underlying3 g0
  simp at e0
  subst e0
  obtain ⟨a1, e1, _, w1⟩ := DataW.trod_int Try.underlying3 g1
  simp at e1
  subst e1
  obtain ⟨a2, e2, _, w2⟩ := DataW.trod_int Try.underlying3 g2
  simp at e2
  subst e2
  obtain ⟨a3, e3, _, w3⟩ := DataW.trod_int Try.underlying2 g3
  simp at e3
  subst e3
  obtain ⟨a4, e4, _, w4⟩ := DataW.trod_int Try.underlying3 g4
  simp at e4
  subst e4
  exact ⟨⟨a0, a1, a2, a3, a4⟩, rfl, w0, w1, w2, w3, w4⟩
def Tn.wf (a : Tn) : Prop := (Lit.int .i64 a.rate).wf = true ∧ True
set_option maxRecDepth 100000 in
theorem open_Tn {H : Type} {enc : TypeId × Value → H} {w : World} {spare : Nat → Bool} {held : Bool} (n : Nat) (cs : List Value) (d : DataW H × List MemPlace) (h : DataW.trod enc Try.prog w 0 spare held n 67 cs = some d) : ∃ a : Tn, cs = a.cells ∧ a.wf := by
 obtain ⟨xs, m, rfl, _, hlen, hxs, hf⟩ := DataW.trod_struct Try.underlying67 h
 have hl : cs.length = 2 := hlen.trans (by kernel_rfl)
 have hx : xs.length = 2 := hxs
 have g0 := hf 0 _ rfl
 rw [show Try.prog.cellsOf _ = 1 from by kernel_rfl, List.getElem?_eq_getElem (show 0 < xs.length by omega)] at g0
 have g1 := hf 1 _ rfl
 rw [show Try.prog.cellsOf _ = 1 from by kernel_rfl, List.getElem?_eq_getElem (show 1 < xs.length by omega)] at g1
 match cs, hl with
 | [c0, c1], _ =>
  obtain ⟨a0, e0, _, w0⟩ := DataW.trod_int Try.underlying2 g0
  simp at e0
  subst e0
  obtain ⟨a1, e1, _⟩ := DataW.trod_bool Try.underlying4 g1
  simp at e1
  subst e1
  exact ⟨⟨a0, a1⟩, rfl, w0, trivial⟩
def Tm.list (t : Tm) (ad : Option Addr) (cap : Nat) : List Value := [.int .i64 t.limit, .slice ad t.trs.length cap, .int .i64 t.cyc, .int .i64 t.due, .int .i64 t.minFixed, .int .i64 t.minPart, .int .i64 t.start]
def Tm.wf (t : Tm) : Prop := (Lit.int .i64 t.limit).wf = true ∧ (Lit.int .i64 t.start).wf = true
set_option maxRecDepth 100000 in
theorem open_Tm {H : Type} {enc : TypeId × Value → H} {w : World} {spare : Nat → Bool} {held : Bool} (n : Nat) (cs : List Value) (d : DataW H × List MemPlace) (h : DataW.trod enc Try.prog w 0 spare held n 24 cs = some d) :
  ∃ (s : Tm) (ad : Option Addr) (cap : Nat), cs = s.list ad cap ∧
   Reads w 2 (.slice ad s.trs.length cap) s.trs.length (s.trs.flatMap Tn.cells) ∧ s.trs.length ≤ maxLen := by
 obtain ⟨xs, m, rfl, _, hlen, hxs, hf⟩ := DataW.trod_struct Try.underlying24 h
 have hl : cs.length = 7 := hlen.trans (by kernel_rfl)
 have hx : xs.length = 7 := hxs
 have g0 := hf 0 _ rfl
 have g1 := hf 1 _ rfl
 have g2 := hf 2 _ rfl
 have g3 := hf 3 _ rfl
 have g4 := hf 4 _ rfl
 have g5 := hf 5 _ rfl
 have g6 := hf 6 _ rfl
 rw [show Try.prog.cellsOf _ = 1 from by kernel_rfl, List.getElem?_eq_getElem (show 0 < xs.length by omega)] at g0
 rw [show Try.prog.cellsOf _ = 1 from by kernel_rfl, List.getElem?_eq_getElem (show 1 < xs.length by omega)] at g1
 rw [show Try.prog.cellsOf _ = 1 from by kernel_rfl, List.getElem?_eq_getElem (show 2 < xs.length by omega)] at g2
 rw [show Try.prog.cellsOf _ = 1 from by kernel_rfl, List.getElem?_eq_getElem (show 3 < xs.length by omega)] at g3
 rw [show Try.prog.cellsOf _ = 1 from by kernel_rfl, List.getElem?_eq_getElem (show 4 < xs.length by omega)] at g4
 rw [show Try.prog.cellsOf _ = 1 from by kernel_rfl, List.getElem?_eq_getElem (show 5 < xs.length by omega)] at g5
 rw [show Try.prog.cellsOf _ = 1 from by kernel_rfl, List.getElem?_eq_getElem (show 6 < xs.length by omega)] at g6
 match cs, hl with
 | [c0, c1, c2, c3, c4, c5, c6], _ =>
  obtain ⟨a0, e0, _, w0⟩ := DataW.trod_int Try.underlying2 g0
  simp at e0
  subst e0
  obtain ⟨ad, len, cap, e4⟩ : ∃ ad len cap, c1 = .slice ad len cap := by
   rcases open_slice Try.underlying22 g1 with ⟨h0, _⟩ | ⟨a, len', cap', m, n, D, Pl, h0, _⟩
   ·simp at h0; exact ⟨_, _, _, h0⟩
   ·simp at h0; exact ⟨_, _, _, h0⟩
  subst e4
  obtain ⟨L, hLl, hr, _, hm⟩ := open_reads (f := Tn.cells) (size := 2) Tn.cells_length (by decide) Try.underlying22 (by kernel_rfl) (fun n cs d hd => open_Tn n cs d hd) g1
  subst hLl
  obtain ⟨a2, e2, _, w2⟩ := DataW.trod_int Try.underlying3 g2
  simp at e2
  subst e2
  obtain ⟨a3, e3, _, w3⟩ := DataW.trod_int Try.underlying3 g3
  simp at e3
  subst e3
  obtain ⟨a4, e4, _, w4⟩ := DataW.trod_int Try.underlying2 g4
  simp at e4
  subst e4
  obtain ⟨a5, e5, _, w5⟩ := DataW.trod_int Try.underlying2 g5
  simp at e5
  subst e5
  obtain ⟨a6, e6, _, w6⟩ := DataW.trod_int Try.underlying3 g6
  simp at e6
  subst e6
  exact ⟨⟨a0, a2, a3, a4, a5, a6, L⟩, ad, cap, rfl, hr, hm⟩
end Go.Proofs.Ythcmpcekmkioaaa
namespace Go.Proofs.Ythcmpcekmkioaaa
open Go.RowKit
def uq (x m : Int) : Int := IntKind.u64.wrap x % m
theorem uq_bd (x : Int) {m : Int} (hm : 0 < m) : 0 ≤ uq x m ∧ uq x m < m := ⟨Int.emod_nonneg _ (by omega), Int.emod_lt_of_pos _ hm⟩
def playTrs (L : List Tn) : List Tn := if ((L.take 8).map fun x => (⟨uq x.rate 3000000, x.grace⟩ : Tn)) = [] then [⟨500000, false⟩] else (L.take 8).map fun x => ⟨uq x.rate 3000000, x.grace⟩
def playT (t : Tm) : Tm := if ({ t with start := 10957 + uq t.start 400 } : Tm).err = 0 then { t with start := 10957 + uq t.start 400 } else ⟨uq t.limit 100000, 1 + uq t.cyc 28, 1 + uq t.due 25, uq t.minFixed 100, uq t.minPart 101, 10957 + uq t.start 400, playTrs t.trs⟩
theorem inB_iff (v a b : Int) : inB v a b = true ↔ a ≤ v ∧ v ≤ b := by simp [inB]
theorem playTrs_ok (L : List Tn) : 1 ≤ (playTrs L).length ∧ (playTrs L).length ≤ 8 ∧ ∀ x ∈ playTrs L, x.okB = true := by
 unfold playTrs
 split
 ·refine ⟨by simp, by simp, fun x hx => ?_⟩
  obtain rfl : x = ⟨500000, false⟩ := by simpa using hx
  rfl
 ·rename_i h
  have hl : ((L.take 8).map fun x => (⟨uq x.rate 3000000, x.grace⟩ : Tn)).length ≠ 0 := fun e => h (List.eq_nil_of_length_eq_zero e)
  have hl2 : ((L.take 8).map fun x => (⟨uq x.rate 3000000, x.grace⟩ : Tn)).length ≤ 8 := by rw [List.length_map, List.length_take]; omega
  refine ⟨by omega, hl2, fun x hx => ?_⟩
  obtain ⟨y, _, rfl⟩ := List.mem_map.1 hx
  have := uq_bd y.rate (m := 3000000) (by decide)
  exact (inB_iff _ _ _).2 ⟨this.1, by show uq y.rate 3000000 ≤ _; omega⟩
theorem playT_ok (t : Tm) : (playT t).err = 0 ∧ 10957 ≤ (playT t).start ∧ (playT t).start ≤ 11356 := by
 have hs := uq_bd t.start (m := 400) (by decide)
 unfold playT
 split
 ·rename_i h
  exact ⟨h, by show 10957 ≤ 10957 + uq t.start 400; omega, by show 10957 + uq t.start 400 ≤ 11356; omega⟩
 ·refine ⟨?_, by show 10957 ≤ 10957 + uq t.start 400; omega, by show 10957 + uq t.start 400 ≤ 11356; omega⟩
  obtain ⟨h1, h2, h3⟩ := playTrs_ok t.trs
  have l := uq_bd t.limit (m := 100000) (by decide)
  have c := uq_bd t.cyc (m := 28) (by decide)
  have d := uq_bd t.due (m := 25) (by decide)
  have f := uq_bd t.minFixed (m := 100) (by decide)
  have p := uq_bd t.minPart (m := 101) (by decide)
  unfold Tm.err
  rw [if_pos]
  simp only [Tm.okB, Bool.and_eq_true, inB_iff, List.all_eq_true]
  refine ⟨⟨⟨?_, ?_⟩, h3⟩, ⟨⟨⟨?_, ?_⟩, ?_⟩, ?_⟩, ?_⟩ <;> constructor <;> omega
def playE (t : Tm) (days : Int) (e : Ev) : Ev := ⟨e.kind, t.start + uq e.day (days + 1), e.tranche, if e.kind = 6 then (uq e.amount 100000000) % 3000000 else uq e.amount 100000000, e.ref⟩
def playL (t : Tm) (days : Int) (n : Nat) : List Ev → List Ev → List Ev
 | [], O => O
 | e :: L, O => if O.length < n then (if evErr t (playE t days e) = 0 then playL t days n L (O ++ [playE t days e]) else playL t days n L O) else O
theorem playL_ok {t : Tm} {days : Int} {n : Nat} (hd : 0 ≤ days) : ∀ (L O : List Ev), (∀ x ∈ O, evErr t x = 0 ∧ x.day ≤ t.start + days) → O.length ≤ n → (∀ x ∈ playL t days n L O, evErr t x = 0 ∧ x.day ≤ t.start + days) ∧ (playL t days n L O).length ≤ n := by
 intro L
 induction L with
 | nil => intro O h hn; exact ⟨h, hn⟩
 | cons e L ih =>
  intro O h hn
  unfold playL
  split
  ·rename_i hlt
   split
   ·rename_i h0
    refine ih _ (fun x hx => ?_) (by rw [List.length_append, List.length_singleton]; omega)
    rcases List.mem_append.1 hx with hx | hx
    ·exact h x hx
    ·obtain rfl : x = playE t days e := by simpa using hx
     refine ⟨h0, ?_⟩
     have := (uq_bd e.day (m := days + 1) (by omega)).2
     show t.start + uq e.day (days + 1) ≤ _
     omega
   ·exact ih _ h hn
  ·exact ⟨h, hn⟩
end Go.Proofs.Ythcmpcekmkioaaa
namespace Go.Proofs.Ythcmpcekmkioaaa
open Go.RowKit
theorem sortL_sortL (L : List Ev) : sortL (sortL L) = sortL L := (sortL_one (L := sortL L) (X := sortL L) (sortL_spec L).1 (Alike.refl _)).symm
theorem any_alike {X Y : List Ev} (h : Alike X Y) (q : Ev → Bool) : X.any q = Y.any q := by
 rcases hx : X.any q with _ | _
 ·rcases hy : Y.any q with _ | _
  ·rfl
  ·obtain ⟨a, ha, hq⟩ := List.any_eq_true.1 hy
   have : X.any q = true := List.any_eq_true.2 ⟨a, h.symm.mem ha, hq⟩
   rw [hx] at this; cases this
 ·obtain ⟨a, ha, hq⟩ := List.any_eq_true.1 hx
  exact (List.any_eq_true.2 ⟨a, h.mem ha, hq⟩).symm
theorem walkR_sort {t : Tm} {L : List Ev} {td : Int} (h : ∀ x ∈ L, evErr t x = 0) : walkR t (sortL L) td = walkR t L td := by
 have hs := (sortL_spec L).2
 have hr : repErr t (sortL L) td = repErr t L td := by
  unfold repErr
  rw [evsErr_all h, evsErr_all (t := t) (L := sortL L) (fun x hx => h x (hs.mem hx)), sortL_length, any_alike hs]
 unfold walkR
 rw [hr, sortL_sortL]
end Go.Proofs.Ythcmpcekmkioaaa
namespace Go.Proofs.Ythcmpcekmkioaaa
open Go.RowKit
set_option maxRecDepth 100000 in
set_option maxHeartbeats 3200000 in
theorem revRight_go (li cy du mf mp st ki da tr am re : Int) (L : List Tn) (n : Nat) (ad : Option Addr) (cap : Nat) (w : World) (hr : Reads w 2 (.slice ad n cap) n (L.flatMap Tn.cells)) (hl : n ≤ 1000000) (hn : L.length = n) :
  Calls Try.prog 25 #[.agg #[.int .i64 li, .slice ad n cap, .int .i64 cy, .int .i64 du, .int .i64 mf, .int .i64 mp, .int .i64 st], .agg #[.int .i64 ki, .int .i64 da, .int .i64 tr, .int .i64 am, .int .i64 re]] w fun e w' => e = .returned (.int .i64 (evErr ⟨li, cy, du, mf, mp, st, L⟩ ⟨ki, da, tr, am, re⟩)) ∧ Keeps (fun _ => False) w w' := by
 have hc := evCells_of w n ad cap li cy du mf mp st ki da tr am re
 obtain ⟨z, hz⟩ : ∃ z, evErr ⟨li, cy, du, mf, mp, st, L⟩ ⟨ki, da, tr, am, re⟩ = z := ⟨_, rfl⟩
 rw [hz]
 obtain ⟨y, hy⟩ : ∃ y, Tm.err ⟨li, cy, du, mf, mp, st, L⟩ = y := ⟨_, rfl⟩
 have hy2 := Tm.err_or ⟨li, cy, du, mf, mp, st, L⟩
 rw [hy] at hy2
 unfold evErr at hz
 rw [hy, hn] at hz
 dsimp only at hz
 obtain ⟨Hr, Hn, Hc, Hz, Hy⟩ := hid5 hr hn hc hz hy; clear hy hz hc hn hr
 go_enter Try.func25, Try.ntmps25
 go_wp2_with (go_at_call 24; ((with_reducible refine (rtmRight_at ⟨li, cy, du, mf, mp, st, L⟩ (.slice ad n cap) _ Hy.out (by rw [Hn.out]; exact (Hr.out.keeps (S := fun _ => False) (by (repeat (first | exact Keeps.refl _ _ | exact Keeps.alloc _ _ | exact Keeps.drew _ | exact Keeps.drewN _ _ | refine Keeps.trans_drew ?_ | refine Keeps.trans_drewN ?_ | refine Keeps.trans_alloc ?_))) (by simp))) (by rw [Hn.out]; omega)).mono ?_); rintro e w1 ⟨rfl, hk1⟩; obtain ⟨c1, c6, d0, d1, d2, d3, d4⟩ := Hc.out _ hk1; have Hk1 := Lib.hid hk1; clear hk1; refine haltE ?_))
 refine Lib.hid ?_
 rcases hy2 with rfl | rfl
 ·have hz := Hz.out
  clear Hz
  rw [if_neg (by decide)] at hz
  go_upto_region 3 with fail
  go_cut [18] from 11 to 18 (fun s18 wx => s18 = .bool (decide (ki < 1 ∨ 6 < ki)) ∧ w1 = wx)
  case first =>
   have Hz := Lib.hid hz; clear hz
   by_cases q6 : ki < 1
   ·skip
    go_wp2_with fail
    go_meet
    exact ⟨congrArg Value.bool (decide_eq_true (by omega)).symm, rfl⟩
   ·skip
    by_cases q8 : 6 < ki
    ·skip
     go_wp2_with fail
     go_meet
     exact ⟨congrArg Value.bool (decide_eq_true (by omega)).symm, rfl⟩
    ·skip
     go_wp2_with fail
     go_meet
     first | exact ⟨congrArg Value.bool (decide_eq_false (by omega)).symm, rfl⟩ | exact ⟨congrArg Value.bool ((show _ = false by simp; omega).trans (decide_eq_false (by omega)).symm), rfl⟩
  case rest =>
   obtain ⟨rfl, rfl⟩ := hcut
   by_cases c3 : ki < 1 ∨ 6 < ki
   ·rw [if_pos c3] at hz
    rw [decide_eq_true c3]
    clear c3
    subst hz
    go_wp2_with fail
    go_ret
    exact ⟨rfl, Keeps.nt (by (repeat (first | exact Keeps.refl _ _ | exact Keeps.alloc _ _ | exact Keeps.drew _ | exact Keeps.drewN _ _ | refine Keeps.trans_drew ?_ | refine Keeps.trans_drewN ?_ | refine Keeps.trans_alloc ?_))) Hk1.out⟩
   rw [if_neg c3] at hz
   rw [decide_eq_false c3]
   clear c3
   go_upto_region 5 with fail
   go_cut [44] from 19 to 44 (fun s44 wx => s44 = .bool (decide ((ki = 2 ∧ ¬ tr = 0) ∨ (¬ ki = 2 ∧ (tr < 1 ∨ (n : Int) < tr)))) ∧ w1 = wx)
   case first =>
    have Hz := Lib.hid hz; clear hz
    by_cases q8 : ki = 2
    ·skip
     have p8 : (ki == 2) = true := by simp [q8]
     have p8' : (ki != 2) = false := by simp [q8]
     have Q8 := Lib.hid q8; clear q8
     by_cases q10 : tr = 0
     ·skip
      have p10 : (tr == 0) = true := by simp [q10]
      have p10' : (tr != 0) = false := by simp [q10]
      have Q10 := Lib.hid q10; clear q10
      go_wp2_with fail
      go_meet
      have q8 := Q8.out
      have q10 := Q10.out
      first | exact ⟨congrArg Value.bool (decide_eq_false (by omega)).symm, rfl⟩ | exact ⟨congrArg Value.bool ((show _ = false by simp; omega).trans (decide_eq_false (by omega)).symm), rfl⟩
     ·skip
      have p10 : (tr == 0) = false := by simp [q10]
      have p10' : (tr != 0) = true := by simp [q10]
      have Q10 := Lib.hid q10; clear q10
      go_wp2_with fail
      go_meet
      have q8 := Q8.out
      have q10 := Q10.out
      exact ⟨congrArg Value.bool (decide_eq_true (by omega)).symm, rfl⟩
    ·skip
     have p8 : (ki == 2) = false := by simp [q8]
     have p8' : (ki != 2) = true := by simp [q8]
     have Q8 := Lib.hid q8; clear q8
     by_cases q10 : tr < 1
     ·skip
      go_wp2_with fail
      go_meet
      have q8 := Q8.out
      exact ⟨congrArg Value.bool (decide_eq_true (by omega)).symm, rfl⟩
     ·skip
      by_cases q12 : (n : Int) < tr
      ·skip
       go_wp2_with fail
       go_meet
       have q8 := Q8.out
       exact ⟨congrArg Value.bool (decide_eq_true (by omega)).symm, rfl⟩
      ·skip
       go_wp2_with fail
       go_meet
       have q8 := Q8.out
       first | exact ⟨congrArg Value.bool (decide_eq_false (by omega)).symm, rfl⟩ | exact ⟨congrArg Value.bool ((show _ = false by simp; omega).trans (decide_eq_false (by omega)).symm), rfl⟩
   case rest =>
    obtain ⟨rfl, rfl⟩ := hcut
    by_cases c5 : (ki = 2 ∧ ¬ tr = 0) ∨ (¬ ki = 2 ∧ (tr < 1 ∨ (n : Int) < tr))
    ·rw [if_pos c5] at hz
     rw [decide_eq_true c5]
     clear c5
     subst hz
     go_wp2_with fail
     go_ret
     exact ⟨rfl, Keeps.nt (by (repeat (first | exact Keeps.refl _ _ | exact Keeps.alloc _ _ | exact Keeps.drew _ | exact Keeps.drewN _ _ | refine Keeps.trans_drew ?_ | refine Keeps.trans_drewN ?_ | refine Keeps.trans_alloc ?_))) Hk1.out⟩
    rw [if_neg c5] at hz
    rw [decide_eq_false c5]
    clear c5
    go_upto_if 47 with fail
    go_cut [5, 6] from 45 to 47 (fun s5 s6 wx => ∃ lo hi, s5 = .int .i64 lo ∧ s6 = .int .i64 hi ∧ Hid ((ki = 6 ∧ lo = 0 ∧ hi = 10000000) ∨ (¬ ki = 6 ∧ lo = 1 ∧ hi = 1000000000000000)) ∧ w1 = wx)
    case first =>
     have Hz := Lib.hid hz; clear hz
     by_cases q : ki = 6
     ·have p : (ki == 6) = true := by simp [q]
      have Q := Lib.hid q; clear q
      go_wp2_with fail
      go_meet
      exact ⟨_, _, rfl, rfl, Lib.hid (.inl ⟨Q.out, rfl, rfl⟩), rfl⟩
     ·have p : (ki == 6) = false := by simp [q]
      have Q := Lib.hid q; clear q
      go_wp2_with fail
      go_meet
      exact ⟨_, _, rfl, rfl, Lib.hid (.inr ⟨Q.out, rfl, rfl⟩), rfl⟩
    case rest =>
     obtain ⟨lo, hi, rfl, rfl, Hlh, rfl⟩ := hcut
     go_upto_region 10 with fail
     go_cut [57] from 48 to 57 (fun s57 wx => s57 = .bool (decide (am < lo ∨ hi < am)) ∧ w1 = wx)
     case first =>
      have Hz := Lib.hid hz; clear hz
      by_cases q12 : am < lo
      ·skip
       go_wp2_with fail
       go_meet
       exact ⟨congrArg Value.bool (decide_eq_true (by omega)).symm, rfl⟩
      ·skip
       by_cases q14 : hi < am
       ·skip
        go_wp2_with fail
        go_meet
        exact ⟨congrArg Value.bool (decide_eq_true (by omega)).symm, rfl⟩
       ·skip
        go_wp2_with fail
        go_meet
        first | exact ⟨congrArg Value.bool (decide_eq_false (by omega)).symm, rfl⟩ | exact ⟨congrArg Value.bool ((show _ = false by simp; omega).trans (decide_eq_false (by omega)).symm), rfl⟩
     case rest =>
      obtain ⟨rfl, rfl⟩ := hcut
      by_cases c10 : am < lo ∨ hi < am
      ·rw [if_pos (show (ki = 6 ∧ (am < 0 ∨ 10000000 < am)) ∨ (¬ ki = 6 ∧ (am < 1 ∨ 1000000000000000 < am)) by rcases Hlh.out with ⟨h1, h2, h3⟩ | ⟨h1, h2, h3⟩ <;> omega)] at hz
       rw [decide_eq_true c10]
       clear c10
       subst hz
       go_wp2_with fail
       go_ret
       exact ⟨rfl, Keeps.nt (by (repeat (first | exact Keeps.refl _ _ | exact Keeps.alloc _ _ | exact Keeps.drew _ | exact Keeps.drewN _ _ | refine Keeps.trans_drew ?_ | refine Keeps.trans_drewN ?_ | refine Keeps.trans_alloc ?_))) Hk1.out⟩
      rw [if_neg (show ¬ ((ki = 6 ∧ (am < 0 ∨ 10000000 < am)) ∨ (¬ ki = 6 ∧ (am < 1 ∨ 1000000000000000 < am))) by rcases Hlh.out with ⟨h1, h2, h3⟩ | ⟨h1, h2, h3⟩ <;> omega)] at hz
      rw [decide_eq_false c10]
      clear c10
      go_upto_region 12 with fail
      go_cut [67] from 58 to 67 (fun s67 wx => s67 = .bool (decide (da < st ∨ 2932896 < da)) ∧ w1 = wx)
      case first =>
       have Hz := Lib.hid hz; clear hz
       by_cases q14 : da < st
       ·skip
        go_wp2_with fail
        go_meet
        exact ⟨congrArg Value.bool (decide_eq_true (by omega)).symm, rfl⟩
       ·skip
        by_cases q16 : 2932896 < da
        ·skip
         go_wp2_with fail
         go_meet
         exact ⟨congrArg Value.bool (decide_eq_true (by omega)).symm, rfl⟩
        ·skip
         go_wp2_with fail
         go_meet
         first | exact ⟨congrArg Value.bool (decide_eq_false (by omega)).symm, rfl⟩ | exact ⟨congrArg Value.bool ((show _ = false by simp; omega).trans (decide_eq_false (by omega)).symm), rfl⟩
      case rest =>
       obtain ⟨rfl, rfl⟩ := hcut
       by_cases c12 : da < st ∨ 2932896 < da
       ·rw [if_pos c12] at hz
        rw [decide_eq_true c12]
        clear c12
        subst hz
        go_wp2_with fail
        go_ret
        exact ⟨rfl, Keeps.nt (by (repeat (first | exact Keeps.refl _ _ | exact Keeps.alloc _ _ | exact Keeps.drew _ | exact Keeps.drewN _ _ | refine Keeps.trans_drew ?_ | refine Keeps.trans_drewN ?_ | refine Keeps.trans_alloc ?_))) Hk1.out⟩
       rw [if_neg c12] at hz
       rw [decide_eq_false c12]
       clear c12
       go_upto_region 14 with fail
       go_cut [7] from 68 to 75 (fun s7 wx => s7 = .bool (decide (ki = 4 ∨ ki = 5)) ∧ w1 = wx)
       case first =>
        have Hz := Lib.hid hz; clear hz
        by_cases q16 : ki = 4
        ·skip
         have p16 : (ki == 4) = true := by simp [q16]
         have p16' : (ki != 4) = false := by simp [q16]
         have Q16 := Lib.hid q16; clear q16
         go_wp2_with fail
         go_meet
         have q16 := Q16.out
         exact ⟨congrArg Value.bool (decide_eq_true (by omega)).symm, rfl⟩
        ·skip
         have p16 : (ki == 4) = false := by simp [q16]
         have p16' : (ki != 4) = true := by simp [q16]
         have Q16 := Lib.hid q16; clear q16
         by_cases q18 : ki = 5
         ·skip
          have p18 : (ki == 5) = true := by simp [q18]
          have p18' : (ki != 5) = false := by simp [q18]
          have Q18 := Lib.hid q18; clear q18
          go_wp2_with fail
          go_meet
          have q16 := Q16.out
          have q18 := Q18.out
          exact ⟨congrArg Value.bool (decide_eq_true (by omega)).symm, rfl⟩
         ·skip
          have p18 : (ki == 5) = false := by simp [q18]
          have p18' : (ki != 5) = true := by simp [q18]
          have Q18 := Lib.hid q18; clear q18
          go_wp2_with fail
          go_meet
          have q16 := Q16.out
          have q18 := Q18.out
          first | exact ⟨congrArg Value.bool (decide_eq_false (by omega)).symm, rfl⟩ | exact ⟨congrArg Value.bool ((show _ = false by simp; omega).trans (decide_eq_false (by omega)).symm), rfl⟩
       case rest =>
        obtain ⟨rfl, rfl⟩ := hcut
        obtain ⟨d, hd⟩ : ∃ d, decide (ki = 4 ∨ ki = 5) = d := ⟨_, rfl⟩
        rw [hd]
        have Hd := Lib.hid hd; clear hd
        have hf : (((ki = 4 ∨ ki = 5) ∧ (re < 1 ∨ 2000 < re)) ∨ (¬ (ki = 4 ∨ ki = 5) ∧ ¬ re = 0)) = ((d = true ∧ (re < 1 ∨ 2000 < re)) ∨ (d = false ∧ ¬ re = 0)) := by
         cases d
         ·have := of_decide_eq_false Hd.out; simp [this]
         ·have := of_decide_eq_true Hd.out; simp [this]
        rw [ite_congr hf (fun _ => rfl) (fun _ => rfl)] at hz
        clear hf
        cases d
        ·skip
         have hf : ((false = true ∧ (re < 1 ∨ 2000 < re)) ∨ (false = false ∧ ¬ re = 0)) = (¬ re = 0) := by simp
         rw [ite_congr hf (fun _ => rfl) (fun _ => rfl)] at hz
         clear hf
         go_upto_region 15 with fail
         go_cut [95] from 76 to 95 (fun s95 wx => s95 = .bool (decide (¬ re = 0)) ∧ w1 = wx)
         case first =>
          have Hz := Lib.hid hz; clear hz
          by_cases q20 : re = 0
          ·skip
           have p20 : (re == 0) = true := by simp [q20]
           have p20' : (re != 0) = false := by simp [q20]
           have Q20 := Lib.hid q20; clear q20
           go_wp2_with fail
           go_meet
           have q20 := Q20.out
           first | exact ⟨congrArg Value.bool (decide_eq_false (by omega)).symm, rfl⟩ | exact ⟨congrArg Value.bool ((show _ = false by simp; omega).trans (decide_eq_false (by omega)).symm), rfl⟩
          ·skip
           have p20 : (re == 0) = false := by simp [q20]
           have p20' : (re != 0) = true := by simp [q20]
           have Q20 := Lib.hid q20; clear q20
           go_wp2_with fail
           go_meet
           have q20 := Q20.out
           exact ⟨congrArg Value.bool (decide_eq_true (by omega)).symm, rfl⟩
         case rest =>
          obtain ⟨rfl, rfl⟩ := hcut
          by_cases c15 : ¬ re = 0
          ·rw [if_pos c15] at hz
           rw [decide_eq_true c15]
           clear c15
           subst hz
           go_wp2_with fail
           go_ret
           exact ⟨rfl, Keeps.nt (by (repeat (first | exact Keeps.refl _ _ | exact Keeps.alloc _ _ | exact Keeps.drew _ | exact Keeps.drewN _ _ | refine Keeps.trans_drew ?_ | refine Keeps.trans_drewN ?_ | refine Keeps.trans_alloc ?_))) Hk1.out⟩
          rw [if_neg c15] at hz
          rw [decide_eq_false c15]
          clear c15
          subst hz
          go_wp2_with fail
          go_ret
          exact ⟨rfl, Keeps.nt (by (repeat (first | exact Keeps.refl _ _ | exact Keeps.alloc _ _ | exact Keeps.drew _ | exact Keeps.drewN _ _ | refine Keeps.trans_drew ?_ | refine Keeps.trans_drewN ?_ | refine Keeps.trans_alloc ?_))) Hk1.out⟩
        ·skip
         have hf : ((true = true ∧ (re < 1 ∨ 2000 < re)) ∨ (true = false ∧ ¬ re = 0)) = (re < 1 ∨ 2000 < re) := by simp
         rw [ite_congr hf (fun _ => rfl) (fun _ => rfl)] at hz
         clear hf
         go_upto_region 15 with fail
         go_cut [95] from 76 to 95 (fun s95 wx => s95 = .bool (decide (re < 1 ∨ 2000 < re)) ∧ w1 = wx)
         case first =>
          have Hz := Lib.hid hz; clear hz
          by_cases q20 : re < 1
          ·skip
           go_wp2_with fail
           go_meet
           exact ⟨congrArg Value.bool (decide_eq_true (by omega)).symm, rfl⟩
          ·skip
           by_cases q22 : 2000 < re
           ·skip
            go_wp2_with fail
            go_meet
            exact ⟨congrArg Value.bool (decide_eq_true (by omega)).symm, rfl⟩
           ·skip
            go_wp2_with fail
            go_meet
            first | exact ⟨congrArg Value.bool (decide_eq_false (by omega)).symm, rfl⟩ | exact ⟨congrArg Value.bool ((show _ = false by simp; omega).trans (decide_eq_false (by omega)).symm), rfl⟩
         case rest =>
          obtain ⟨rfl, rfl⟩ := hcut
          by_cases c15 : re < 1 ∨ 2000 < re
          ·rw [if_pos c15] at hz
           rw [decide_eq_true c15]
           clear c15
           subst hz
           go_wp2_with fail
           go_ret
           exact ⟨rfl, Keeps.nt (by (repeat (first | exact Keeps.refl _ _ | exact Keeps.alloc _ _ | exact Keeps.drew _ | exact Keeps.drewN _ _ | refine Keeps.trans_drew ?_ | refine Keeps.trans_drewN ?_ | refine Keeps.trans_alloc ?_))) Hk1.out⟩
          rw [if_neg c15] at hz
          rw [decide_eq_false c15]
          clear c15
          subst hz
          go_wp2_with fail
          go_ret
          exact ⟨rfl, Keeps.nt (by (repeat (first | exact Keeps.refl _ _ | exact Keeps.alloc _ _ | exact Keeps.drew _ | exact Keeps.drewN _ _ | refine Keeps.trans_drew ?_ | refine Keeps.trans_drewN ?_ | refine Keeps.trans_alloc ?_))) Hk1.out⟩
 ·have hz := Hz.out
  rw [if_pos (by decide)] at hz
  subst hz
  go_wp2_with fail
  go_ret
  exact ⟨rfl, Keeps.nt (by (repeat (first | exact Keeps.refl _ _ | exact Keeps.alloc _ _ | exact Keeps.drew _ | exact Keeps.drewN _ _ | refine Keeps.trans_drew ?_ | refine Keeps.trans_drewN ?_ | refine Keeps.trans_alloc ?_))) Hk1.out⟩
theorem revRight_any (t : Tm) (ev : Ev) (ad : Option Addr) (cap : Nat) (w : World) (hr : Reads w 2 (.slice ad t.trs.length cap) t.trs.length (t.trs.flatMap Tn.cells)) (hl : t.trs.length ≤ 1000000) :
  Calls Try.prog 25 #[t.val (.slice ad t.trs.length cap), ev.agg] w fun e w' => e = .returned (.int .i64 (evErr t ev)) ∧ Keeps (fun _ => False) w w' := revRight_go _ _ _ _ _ _ _ _ _ _ _ _ _ ad cap w hr hl rfl
end Go.Proofs.Ythcmpcekmkioaaa
namespace Go.Proofs.Ythcmpcekmkioaaa
open Go.RowKit
def peS (B b : Nat) (st da : Int) (W : World) : Prop := W.cell? ⟨B, 6, none⟩ = some (.int .i64 st) ∧ W.cell? ⟨b, 1, none⟩ = some (.int .i64 da)
theorem peS.keep {B b : Nat} {st da : Int} {W W' : World} (h : peS B b st da W) (hk : Keeps (fun _ => False) W W') : peS B b st da W' := ⟨(hk.cell (cell_lt h.1) (by simp)).trans h.1, (hk.cell (cell_lt h.2) (by simp)).trans h.2⟩
theorem haltP {p : Prop} (h : Hid p) : p := h.out
def PlayAt (w : World) (O : List Ev) (v : Value) (W : World) : Prop := W.ownsRow 0 54 5 v O.length (O.flatMap Ev.cells) ∧ Fresh w W v
set_option maxRecDepth 100000 in
set_option maxHeartbeats 1600000 in
theorem playEvents_any (t : Tm) (adt : Option Addr) (ct n : Nat) (L : List Ev) (ad : Option Addr) (cap N : Nat) (days : Int) (m : Nat) (w : World) (hn : t.trs.length = n) (htr : Reads w 2 (.slice adt n ct) n (t.trs.flatMap Tn.cells)) (hN : L.length = N) (hr : Reads w 5 (.slice ad N cap) N (L.flatMap Ev.cells)) (hl : N ≤ 1000000) (htl : n ≤ 1000000) (hd0 : 0 ≤ days) (hd1 : days ≤ 1000) (hm : m ≤ 1000) (hs0 : 10957 ≤ t.start) (hs1 : t.start ≤ 11356) :
  Calls Try.prog 13 #[.agg #[.int .i64 t.limit, .slice adt n ct, .int .i64 t.cyc, .int .i64 t.due, .int .i64 t.minFixed, .int .i64 t.minPart, .int .i64 t.start], .slice ad N cap, .int .i64 days, .int .i64 (m : Nat)] w fun e w' => ∃ v, e = .returned v ∧ PlayAt w (playL t days m L []) v w' := by
 obtain ⟨i0, hi, hi0, hi1, hi2⟩ := info_parts info_tEvent
 obtain ⟨Z, hZ⟩ : ∃ Z, playL t days m L [] = Z := ⟨_, rfl⟩
 rw [hZ]
 have htb : ∀ W, Keeps (fun _ => False) (w.alloc (.cells #[.int .i64 t.limit, .slice adt n ct, .int .i64 t.cyc, .int .i64 t.due, .int .i64 t.minFixed, .int .i64 t.minPart, .int .i64 t.start] 24)) W → tbS w.heap.size t (.slice adt n ct) W := fun W hW => tbS.of (box_old (heap_alloc_new w _) hW (by simp))
 obtain ⟨Hn, Htr, HN, Hr, Hi, Hi0, Hi1, Hi2, HZ⟩ := hid9 hn htr hN hr hi hi0 hi1 hi2 hZ; clear hZ hi2 hi1 hi0 hi hr hN htr hn; have Htb := Lib.hid htb; clear htb
 go_enter Try.func13, Try.ntmps13
 go_wp2
 obtain ⟨W0, hW0⟩ : ∃ x, x = w.alloc (.cells #[.int .i64 t.limit, .slice adt n ct, .int .i64 t.cyc, .int .i64 t.due, .int .i64 t.minFixed, .int .i64 t.minPart, .int .i64 t.start] 24) := ⟨_, rfl⟩
 have hk0 : Keeps (fun _ => False) w W0 := by rw [hW0]; exact Keeps.alloc _ _
 have hs0 : w.heap.size < W0.heap.size := by rw [hW0]; simp
 rw [← hW0] at Htb ⊢
 clear hW0
 go_loopw [9, 10] (fun y x wx => ∃ (i : Nat) (O : List Ev) (v : Value), v = y ∧ x = .int .i64 (i : Nat) ∧ i ≤ N ∧ O.length ≤ m ∧ playL t days m (L.drop i) O = Z ∧ PlayAt W0 O v wx) (fun _ x _ => N - (intOf x).toNat)
 case atStart => exact ⟨0, [], _, rfl, rfl, Nat.zero_le _, Nat.zero_le _, HZ.out, World.ownsRow_nil _ _ _ _, Keeps.refl _ _, by simp [Value.ownBlock]⟩
 case round =>
  obtain ⟨i, O, v, rfl, rfl, hin, hom, hpl, hat⟩ := hrel
  have hk := hat.2.1
  obtain ⟨wq, hwq⟩ : ∃ x, x = wr := ⟨_, rfl⟩
  subst hwq
  obtain ⟨o, ho⟩ : ∃ o, O.length = o := ⟨_, rfl⟩
  obtain ⟨av, cv, rfl⟩ : ∃ a c, v = .slice a o c := by obtain ⟨a, c, h, _⟩ := ownsRow_shape hat.1; rw [ho] at h; exact ⟨a, c, h⟩
  by_cases hlt : i < N
  ·have hltI : (i : Int) < (N : Int) := by omega
   obtain ⟨x, hx⟩ := get_some (L := L) (k := i) (by rw [HN.out]; exact hlt)
   rw [drop_cons' hx] at hpl
   by_cases hlo : o < m
   ·have hloI : (o : Int) < (m : Int) := by omega
    obtain ⟨g, q, c', he, hc⟩ := (Hr.out.keeps (hk0.nt hk) (by simp)).elem Ev.cells_length hx (by decide)
    simp only [Value.slice.injEq, true_and] at he
    obtain ⟨rfl, rfl⟩ := he
    obtain ⟨ki, da, tr, am, re⟩ := x
    have x0 : wq.cell? ⟨g, q + i * 5, none⟩ = some (.int .i64 ki) := hc 0 (by decide)
    have x1 : wq.cell? ⟨g, q + i * 5 + 1, none⟩ = some (.int .i64 da) := hc 1 (by decide)
    have x2 : wq.cell? ⟨g, q + i * 5 + 2, none⟩ = some (.int .i64 tr) := hc 2 (by decide)
    have x3 : wq.cell? ⟨g, q + i * 5 + 3, none⟩ = some (.int .i64 am) := hc 3 (by decide)
    have x4 : wq.cell? ⟨g, q + i * 5 + 4, none⟩ = some (.int .i64 re) := hc 4 (by decide)
    clear hc
    have hu0 : 0 ≤ IntKind.u64.wrap da := by rw [IntKind.wrap_u64]; omega
    have hu1 : 0 ≤ IntKind.u64.wrap am := by rw [IntKind.wrap_u64]; omega
    obtain ⟨q, hq⟩ : ∃ q, uq da (days + 1) = q := ⟨_, rfl⟩
    obtain ⟨a1, ha1⟩ : ∃ a, uq am 100000000 = a := ⟨_, rfl⟩
    have hqt : (IntKind.u64.wrap da).tmod (days + 1) = q := by rw [Int.tmod_eq_emod_of_nonneg hu0]; exact hq
    have hat1 : (IntKind.u64.wrap am).tmod 100000000 = a1 := by rw [Int.tmod_eq_emod_of_nonneg hu1]; exact ha1
    have qb := uq_bd da (m := days + 1) (by omega)
    have ab := uq_bd am (m := 100000000) (by decide)
    rw [hq] at qb
    rw [ha1] at ab
    obtain ⟨q0, q1⟩ := qb
    obtain ⟨ab0, ab1⟩ := ab
    have hwd : IntKind.u64.wrap (days + 1) = days + 1 := by rw [IntKind.wrap_u64]; omega
    have hwd2 : IntKind.i64.wrap (days + 1) = days + 1 := by rw [IntKind.wrap_i64]; omega
    have hdn : (days + 1 == 0) = false := beq_eq_false_iff_ne.2 (by omega)
    have hdn2 : ¬ days + 1 = 0 := by omega
    have hwq : IntKind.i64.wrap q = q := by rw [IntKind.wrap_i64]; omega
    have hws : IntKind.i64.wrap (t.start + q) = t.start + q := by rw [IntKind.wrap_i64]; omega
    have hE : playE t days ⟨ki, da, tr, am, re⟩ = ⟨ki, t.start + q, tr, if ki = 6 then a1 % 3000000 else a1, re⟩ := by unfold playE; simp only [hq, ha1]
    unfold playL at hpl
    rw [if_pos (by omega), hE] at hpl
    obtain ⟨b, hbe⟩ : ∃ x, x = wq.heap.size := ⟨_, rfl⟩
    have hbs : W0.heap.size ≤ b := by rw [hbe]; exact hk.size
    have hvb : ∀ i, (Value.slice av o cv).ownBlock = some i → i < b := fun i hi => by rw [hbe]; exact own_lt hat.1 hi
    obtain ⟨w10, hw10⟩ : ∃ x, x = wq.alloc (.cells #[.int .i64 ki, .int .i64 da, .int .i64 tr, .int .i64 am, .int .i64 re] 54) := ⟨_, rfl⟩
    have hkq : Keeps (fun _ => False) W0 w10 := by rw [hw10]; exact hk.nt (Keeps.alloc _ _)
    have hb10 : w10.heap[b]? = some (.cells #[.int .i64 ki, .int .i64 da, .int .i64 tr, .int .i64 am, .int .i64 re] 54 (0, 0)) := by rw [hw10, hbe]; exact heap_alloc_new _ _
    have hro10 : w10.ownsRow 0 54 5 (.slice av o cv) o (O.flatMap Ev.cells) := by
     have h := hat.1.alloc (.cells #[.int .i64 ki, .int .i64 da, .int .i64 tr, .int .i64 am, .int .i64 re] 54)
     rw [ho] at h
     rw [hw10]
     exact h
    have hS1 : peS w.heap.size b t.start da w10.drew := (show peS w.heap.size b t.start da w10 from ⟨(Htb.out _ hkq).2.2.2.2.2.2, cell_of_cells hb10 1⟩).keep (Keeps.drew _)
    obtain ⟨Hk0, Hpl, Hat, Hk, Hx, Ho, Hq, Ha1, HE⟩ := hid9 hk0 hpl hat hk hx ho hq ha1 hE; clear hE ha1 hq ho hx hk hat hpl hk0; obtain ⟨Hbs, Hvb, Hkq, Hb10, Hro10, HS1, Hu0, Hu1⟩ := hid8 hbs hvb hkq hb10 hro10 hS1 hu0 hu1; clear hu1 hu0 hS1 hro10 hb10 hkq hvb hbs
    go_wp2_with fail
    rw [← hw10]
    clear hw10 x0 x1 x2 x3 x4
    rw [← hbe]
    have Hbe := Lib.hid hbe; clear hbe
    refine wp_region_mixz (peS w.heap.size b t.start da) 12 (.take 0 (.take 1 (.take 2 (.take 3 (.take 4 (.take 5 (.take 6 (.take 7 (.take 8 (.take 9 (.take 10 (.take 11 (.move 12 .done))))))))))))) (by kernel_rfl) (by kernel_rfl) ?_ ?_
    ·exact HS1.out
    intro w11 hs11 hk11
    repeat (first
     | (refine mix_skip rfl (by rfl) ?_; try simp only [Act.put, List.setIfInBounds_toArray, List.set_cons_zero, List.set_cons_succ])
     | (refine mix_skipm rfl (by rfl) ?_; try simp only [Act.put, List.setIfInBounds_toArray, List.set_cons_zero, List.set_cons_succ])
     | (refine mix_take (v := ?_) rfl (by rfl) ?_ ?_; rotate_left; (· intro w' hSw; unfold peS at hSw; go_simp; (try with_reducible rfl)); rotate_right; try simp only [Act.put, List.setIfInBounds_toArray, List.set_cons_zero, List.set_cons_succ]))
    have hb11 := box_old Hb10.out hk11 (by simp)
    have hkw11 := Hkq.out.nt hk11
    have hro11 := Hro10.out.of_keeps hk11
    have b0 := cell_of_cells hb11 0
    have b1 := cell_of_cells hb11 1
    have b2 := cell_of_cells hb11 2
    have b3 := cell_of_cells hb11 3
    have b4 := cell_of_cells hb11 4
    have f1 := free_of_cells hb11 1
    have f3 := free_of_cells hb11 3
    have bl := lt_of_block hb11
    refine mix_last rfl (fun K hK => ?_)
    go_simp
    refine hK.out _ _ ?_
    clear hK K
    try simp only [Act.put, List.setIfInBounds_toArray, List.set_cons_zero, List.set_cons_succ]
    refine mix_done ?_
    clear hs11
    obtain ⟨Hk11, Hb11, Hkw11, Hro11⟩ := hid4 hk11 hb11 hkw11 hro11; clear hro11 hkw11 hb11 hk11
    by_cases hki : ki = 6
    ·subst hki
     rw [if_pos rfl] at HE Hpl
     have h3t : a1.tmod 3000000 = a1 % 3000000 := Int.tmod_eq_emod_of_nonneg ab0
     obtain ⟨a2, ha2⟩ : ∃ a2, a1 % 3000000 = a2 := ⟨_, rfl⟩
     rw [ha2] at h3t HE Hpl
     have a20 : 0 ≤ a2 := by rw [← ha2]; omega
     have a21 : a2 < 3000000 := by rw [← ha2]; omega
     have Ha2 := Lib.hid ha2; clear ha2
     obtain ⟨z, hz⟩ : ∃ z, evErr t ⟨6, t.start + q, tr, a2, re⟩ = z := ⟨_, rfl⟩
     have hev := fun W (hW : Keeps (fun _ => False) w W) => revRight_go t.limit t.cyc t.due t.minFixed t.minPart t.start 6 (t.start + q) tr a2 re t.trs n adt ct W (Htr.out.keeps hW (by simp)) htl Hn.out
     have hz' : evErr ⟨t.limit, t.cyc, t.due, t.minFixed, t.minPart, t.start, t.trs⟩ ⟨6, t.start + q, tr, a2, re⟩ = z := hz
     rw [hz'] at hev
     clear hz'
     obtain ⟨w12, hw12⟩ : ∃ x, x = ((w11.setCell ⟨b, 1, none⟩ (.int .i64 (t.start + q))).setCell ⟨b, 3, none⟩ (.int .i64 a1)).setCell ⟨b, 3, none⟩ (.int .i64 a2) := ⟨_, rfl⟩
     have hk12 : Keeps (fun i => i = b) w11 w12 := by rw [hw12]; exact (((Keeps.setCell (S := fun i => i = b) _ _ _ rfl).trans (Keeps.setCell _ _ _ (.inl rfl))).trans (Keeps.setCell _ _ _ (.inl rfl)))
     have hb12 : w12.heap[b]? = some (.cells #[.int .i64 6, .int .i64 (t.start + q), .int .i64 tr, .int .i64 a2, .int .i64 re] 54 (0, 0)) := by
      rw [hw12]
      exact (heap_setCell_same _ _ 3 _ _ _ ((heap_setCell_same _ _ 3 _ _ _ ((heap_setCell_same _ _ 1 _ _ _ Hb11.out).trans rfl)).trans rfl)).trans rfl
     have hk13 : Keeps (fun _ => False) W0 w12 := Hkw11.out.trans (hk12.mono fun i _ e => .inr (by have e' : i = b := e; have := Hbs.out; omega))
     have hpl2 := Hpl.out
     rw [hz] at hpl2
     obtain ⟨Hev, Hz, Hk12, Hb12, Hk13, Hpl2⟩ := hid6 hev hz hk12 hb12 hk13 hpl2; clear hpl2 hk13 hb12 hk12 hz hev
     have tb12 := Htb.out _ Hk13.out
     obtain ⟨tc0, tc1, tc2, tc3, tc4, tc5, tc6⟩ := tb12
     have tcl := cell_lt tc0
     have e0 := cell_of_cells Hb12.out 0
     have e1 := cell_of_cells Hb12.out 1
     have e2 := cell_of_cells Hb12.out 2
     have e3 := cell_of_cells Hb12.out 3
     have e4 := cell_of_cells Hb12.out 4
     have el := lt_of_block Hb12.out
     obtain ⟨Tc0, Tc1, Tc2, Tc3, Tc4, Tc5, Tc6, E0, E1⟩ := hid9 tc0 tc1 tc2 tc3 tc4 tc5 tc6 e0 e1; clear e1 e0 tc6 tc5 tc4 tc3 tc2 tc1 tc0; obtain ⟨E2, E3, E4⟩ := hid3 e2 e3 e4; clear e4 e3 e2
     go_upto_region 10 with fail
     rw [← hw12]
     clear hw12 b0 b1 b2 b3 b4 f1 f3 bl
     have tc0 := Tc0.out
     have tc1 := Tc1.out
     have tc2 := Tc2.out
     have tc3 := Tc3.out
     have tc4 := Tc4.out
     have tc5 := Tc5.out
     have tc6 := Tc6.out
     have e0 := E0.out
     have e1 := E1.out
     have e2 := E2.out
     have e3 := E3.out
     have e4 := E4.out
     go_wp2_with fail
     refine (Hev.out _ (Hk0.out.nt Hk13.out)).mono ?_
     rintro e w14 ⟨rfl, hk14⟩
     clear tc0 tc1 tc2 tc3 tc4 tc5 tc6 e0 e1 e2 e3 e4
     have hb14 := box_old Hb12.out hk14 (by simp)
     have hro14 : w14.ownsRow 0 54 5 (.slice av o cv) o (O.flatMap Ev.cells) := (Hk12.out.row Hro11.out (fun i hi e => by have e' : i = b := e; have := Hvb.out i hi; omega)).of_keeps hk14
     have hfr14 : Fresh W0 w14 (.slice av o cv) := ⟨Hk13.out.nt hk14, Hat.out.2.2⟩
     have e0 := cell_of_cells hb14 0
     have e1 := cell_of_cells hb14 1
     have e2 := cell_of_cells hb14 2
     have e3 := cell_of_cells hb14 3
     have e4 := cell_of_cells hb14 4
     have el := lt_of_block hb14
     by_cases hz0 : z = 0
     ·subst hz0
      have hpl3 := Hpl2.out
      rw [if_pos rfl] at hpl3
      obtain ⟨Hk14, Hb14, Hro14, Hfr14, Hpl3⟩ := hid5 hk14 hb14 hro14 hfr14 hpl3; clear hpl3 hfr14 hro14 hb14 hk14
      go_wp2_with (at_builtin; refine wpList_append_row rfl (.tmp 57) (.tmp 59) 25 rfl 0 54 i0 _ 5 40 Try.underlying25 Hi.out Hi0.out Hi1.out Hi2.out rfl (by decide) (.slice av o cv) o _ rfl (Hro14.out.alloc _) _ 1 _ rfl (Reads.litAt _ _ _ 5 1 _ (by first | rfl | simp) rfl) (by simp [Value.oneCell']) (by unfold maxLen; omega) (by omega) (Nat.zero_le _) ?_; intro v4 w4 hown4 hk4 hf4; have hg4 : PlayAt W0 (O ++ [⟨6, t.start + q, tr, a2, re⟩]) v4 w4 := ⟨by rw [List.length_append, Ho.out, List.flatMap_append]; exact hown4, (Hfr14.out.keep (Keeps.alloc _ _)).app hk4 hf4⟩; obtain ⟨ad4, c4, rfl, _, _⟩ := ownsRow_shape hown4; have Hg4 := Lib.hid hg4; clear hown4 hk4 hf4 hg4)
      go_roundw
      case rel => exact ⟨i + 1, O ++ [⟨6, t.start + q, tr, a2, re⟩], _, rfl, by go_num, by omega, by rw [List.length_append, Ho.out]; simp; omega, Hpl3.out, Hg4.out⟩
      case measure => simp [intOf]; omega
     ·have hzI : (z == 0) = false := beq_eq_false_iff_ne.2 hz0
      have hpl3 := Hpl2.out
      rw [if_neg hz0] at hpl3
      obtain ⟨Hk14, Hb14, Hro14, Hfr14, Hpl3, Hz0⟩ := hid6 hk14 hb14 hro14 hfr14 hpl3 hz0; clear hz0 hpl3 hfr14 hro14 hb14 hk14
      go_wp2
      go_roundw
      case rel => exact ⟨i + 1, O, _, rfl, by go_num, by omega, by rw [Ho.out]; omega, Hpl3.out, by rw [Ho.out]; exact Hro14.out, Hfr14.out⟩
      case measure => simp [intOf]; omega
    ·rw [if_neg hki] at HE Hpl
     have hkiI : (ki == 6) = false := beq_eq_false_iff_ne.2 hki
     have Hki := Lib.hid hki; clear hki
     obtain ⟨z, hz⟩ : ∃ z, evErr t ⟨ki, t.start + q, tr, a1, re⟩ = z := ⟨_, rfl⟩
     have hev := fun W (hW : Keeps (fun _ => False) w W) => revRight_go t.limit t.cyc t.due t.minFixed t.minPart t.start ki (t.start + q) tr a1 re t.trs n adt ct W (Htr.out.keeps hW (by simp)) htl Hn.out
     have hz' : evErr ⟨t.limit, t.cyc, t.due, t.minFixed, t.minPart, t.start, t.trs⟩ ⟨ki, t.start + q, tr, a1, re⟩ = z := hz
     rw [hz'] at hev
     clear hz'
     obtain ⟨w12, hw12⟩ : ∃ x, x = (w11.setCell ⟨b, 1, none⟩ (.int .i64 (t.start + q))).setCell ⟨b, 3, none⟩ (.int .i64 a1) := ⟨_, rfl⟩
     have hk12 : Keeps (fun i => i = b) w11 w12 := by rw [hw12]; exact ((Keeps.setCell (S := fun i => i = b) _ _ _ rfl).trans (Keeps.setCell _ _ _ (.inl rfl)))
     have hb12 : w12.heap[b]? = some (.cells #[.int .i64 ki, .int .i64 (t.start + q), .int .i64 tr, .int .i64 a1, .int .i64 re] 54 (0, 0)) := by
      rw [hw12]
      exact (heap_setCell_same _ _ 3 _ _ _ ((heap_setCell_same _ _ 1 _ _ _ Hb11.out).trans rfl)).trans rfl
     have hk13 : Keeps (fun _ => False) W0 w12 := Hkw11.out.trans (hk12.mono fun i _ e => .inr (by have e' : i = b := e; have := Hbs.out; omega))
     have hpl2 := Hpl.out
     rw [hz] at hpl2
     obtain ⟨Hev, Hz, Hk12, Hb12, Hk13, Hpl2⟩ := hid6 hev hz hk12 hb12 hk13 hpl2; clear hpl2 hk13 hb12 hk12 hz hev
     have tb12 := Htb.out _ Hk13.out
     obtain ⟨tc0, tc1, tc2, tc3, tc4, tc5, tc6⟩ := tb12
     have tcl := cell_lt tc0
     have e0 := cell_of_cells Hb12.out 0
     have e1 := cell_of_cells Hb12.out 1
     have e2 := cell_of_cells Hb12.out 2
     have e3 := cell_of_cells Hb12.out 3
     have e4 := cell_of_cells Hb12.out 4
     have el := lt_of_block Hb12.out
     obtain ⟨Tc0, Tc1, Tc2, Tc3, Tc4, Tc5, Tc6, E0, E1⟩ := hid9 tc0 tc1 tc2 tc3 tc4 tc5 tc6 e0 e1; clear e1 e0 tc6 tc5 tc4 tc3 tc2 tc1 tc0; obtain ⟨E2, E3, E4⟩ := hid3 e2 e3 e4; clear e4 e3 e2
     go_upto_region 10 with fail
     rw [← hw12]
     clear hw12 b0 b1 b2 b3 b4 f1 f3 bl
     have tc0 := Tc0.out
     have tc1 := Tc1.out
     have tc2 := Tc2.out
     have tc3 := Tc3.out
     have tc4 := Tc4.out
     have tc5 := Tc5.out
     have tc6 := Tc6.out
     have e0 := E0.out
     have e1 := E1.out
     have e2 := E2.out
     have e3 := E3.out
     have e4 := E4.out
     go_wp2_with fail
     refine (Hev.out _ (Hk0.out.nt Hk13.out)).mono ?_
     rintro e w14 ⟨rfl, hk14⟩
     clear tc0 tc1 tc2 tc3 tc4 tc5 tc6 e0 e1 e2 e3 e4
     have hb14 := box_old Hb12.out hk14 (by simp)
     have hro14 : w14.ownsRow 0 54 5 (.slice av o cv) o (O.flatMap Ev.cells) := (Hk12.out.row Hro11.out (fun i hi e => by have e' : i = b := e; have := Hvb.out i hi; omega)).of_keeps hk14
     have hfr14 : Fresh W0 w14 (.slice av o cv) := ⟨Hk13.out.nt hk14, Hat.out.2.2⟩
     have e0 := cell_of_cells hb14 0
     have e1 := cell_of_cells hb14 1
     have e2 := cell_of_cells hb14 2
     have e3 := cell_of_cells hb14 3
     have e4 := cell_of_cells hb14 4
     have el := lt_of_block hb14
     by_cases hz0 : z = 0
     ·subst hz0
      have hpl3 := Hpl2.out
      rw [if_pos rfl] at hpl3
      obtain ⟨Hk14, Hb14, Hro14, Hfr14, Hpl3⟩ := hid5 hk14 hb14 hro14 hfr14 hpl3; clear hpl3 hfr14 hro14 hb14 hk14
      go_wp2_with (at_builtin; refine wpList_append_row rfl (.tmp 57) (.tmp 59) 25 rfl 0 54 i0 _ 5 40 Try.underlying25 Hi.out Hi0.out Hi1.out Hi2.out rfl (by decide) (.slice av o cv) o _ rfl (Hro14.out.alloc _) _ 1 _ rfl (Reads.litAt _ _ _ 5 1 _ (by first | rfl | simp) rfl) (by simp [Value.oneCell']) (by unfold maxLen; omega) (by omega) (Nat.zero_le _) ?_; intro v4 w4 hown4 hk4 hf4; have hg4 : PlayAt W0 (O ++ [⟨ki, t.start + q, tr, a1, re⟩]) v4 w4 := ⟨by rw [List.length_append, Ho.out, List.flatMap_append]; exact hown4, (Hfr14.out.keep (Keeps.alloc _ _)).app hk4 hf4⟩; obtain ⟨ad4, c4, rfl, _, _⟩ := ownsRow_shape hown4; have Hg4 := Lib.hid hg4; clear hown4 hk4 hf4 hg4)
      go_roundw
      case rel => exact ⟨i + 1, O ++ [⟨ki, t.start + q, tr, a1, re⟩], _, rfl, by go_num, by omega, by rw [List.length_append, Ho.out]; simp; omega, Hpl3.out, Hg4.out⟩
      case measure => simp [intOf]; omega
     ·have hzI : (z == 0) = false := beq_eq_false_iff_ne.2 hz0
      have hpl3 := Hpl2.out
      rw [if_neg hz0] at hpl3
      obtain ⟨Hk14, Hb14, Hro14, Hfr14, Hpl3, Hz0⟩ := hid6 hk14 hb14 hro14 hfr14 hpl3 hz0; clear hz0 hpl3 hfr14 hro14 hb14 hk14
      go_wp2
      go_roundw
      case rel => exact ⟨i + 1, O, _, rfl, by go_num, by omega, by rw [Ho.out]; omega, Hpl3.out, by rw [Ho.out]; exact Hro14.out, Hfr14.out⟩
      case measure => simp [intOf]; omega
   ·have hloI : ¬ (o : Int) < (m : Int) := by omega
    unfold playL at hpl
    rw [if_neg (by omega)] at hpl
    obtain ⟨Hpl, Hat, Hk, Hx, Ho, Hk0⟩ := hid6 hpl hat hk hx ho hk0; clear hk0 ho hx hk hat hpl
    go_wp2
    go_ret
    exact ⟨_, rfl, by rw [← Hpl.out]; exact Hat.out.1, Hk0.out.nt Hat.out.2.1, fun g hg => Nat.le_trans Hk0.out.size (Hat.out.2.2 g hg)⟩
  ·obtain rfl : N = i := by omega
   rw [List.drop_of_length_le (by rw [HN.out]; exact Nat.le_refl _)] at hpl
   unfold playL at hpl
   obtain ⟨Hpl, Hat, Hk, Ho, Hk0⟩ := hid5 hpl hat hk ho hk0; clear hk0 ho hk hat hpl
   go_wp2
   go_ret
   exact ⟨_, rfl, by rw [← Hpl.out]; exact Hat.out.1, Hk0.out.nt Hat.out.2.1, fun g hg => Nat.le_trans Hk0.out.size (Hat.out.2.2 g hg)⟩
end Go.Proofs.Ythcmpcekmkioaaa
namespace Go.Proofs.Ythcmpcekmkioaaa
open Go.RowKit
set_option maxRecDepth 100000 in
set_option maxHeartbeats 3200000 in
theorem rtmRight_big (t : Tm) (ad : Option Addr) (cap : Nat) (w : World) (hr : Reads w 2 (.slice ad t.trs.length cap) t.trs.length (t.trs.flatMap Tn.cells)) (hl : t.trs.length ≤ 9223372036854775807) :
  Calls Try.prog 24 #[t.val (.slice ad t.trs.length cap)] w fun e w' => e = .returned (.int .i64 t.err) ∧ Keeps (fun _ => False) w w' := by
 obtain ⟨li, cy, du, mf, mp, st, L⟩ := t
 simp only [Tm.val] at hr hl ⊢
 obtain ⟨n, hn⟩ : ∃ n, L.length = n := ⟨_, rfl⟩
 have hf0 : Tm.err ⟨li, cy, du, mf, mp, st, L⟩ = if (inB li 0 1000000000000000 && inB (n : Int) 1 8 && L.all Tn.okB && (inB cy 1 28 && inB du 1 25 && inB mf 0 1000000000000000 && inB mp 0 1000 && inB st (-135140) 2922896)) = true then 0 else 6 := by
  simp only [Tm.err, Tm.okB, hn]
 rw [hn] at hr hl ⊢
 obtain ⟨ok0, hok0⟩ : ∃ b, (inB li 0 1000000000000000 && inB (n : Int) 1 8) = b := ⟨_, rfl⟩
 rw [hok0] at hf0
 have hbox := heap_alloc_new w (.cells #[.int .i64 li, .slice ad n cap, .int .i64 cy, .int .i64 du, .int .i64 mf, .int .i64 mp, .int .i64 st] 24)
 obtain ⟨Hr, Hf0, Hn, Hbox⟩ := hid4 hr hf0 hn hbox; clear hbox hn hf0 hr
 go_enter Try.func24, Try.ntmps24
 go_upto_region 1 with (fail)
 go_cut [3] (fun s3 wx => s3 = .bool ok0 ∧ wx = w.alloc (.cells #[.int .i64 li, .slice ad n cap, .int .i64 cy, .int .i64 du, .int .i64 mf, .int .i64 mp, .int .i64 st] 24))
 case first =>
  rcases b1 : inB li 0 1000000000000000 with _ | _
  ·have : ok0 = false := by rw [← hok0, b1]; rfl
   subst this
   obtain ⟨B1, Hok0⟩ := hid2 b1 hok0; clear hok0 b1
   go_wp2_with (go_at_call 38; ((with_reducible refine (rtmWithin_at B1.out _).mono ?_); rintro e w1 ⟨rfl, rfl⟩))
   go_meet
   exact ⟨rfl, rfl⟩
  ·by_cases l1 : n < 1
   ·obtain rfl : n = 0 := by omega
    have : ok0 = false := by rw [← hok0, b1]; rfl
    subst this
    obtain ⟨B1, Hok0⟩ := hid2 b1 hok0; clear hok0 b1
    go_wp2_with (go_at_call 38; ((with_reducible refine (rtmWithin_at B1.out _).mono ?_); rintro e w1 ⟨rfl, rfl⟩))
    go_meet
    exact ⟨rfl, rfl⟩
   ·by_cases l2 : 8 < n
    ·have : ok0 = false := by rw [← hok0, b1]; simp [inB]; omega
     subst this
     have l2' : (8 : Int) < (n : Int) := by omega
     have l1' : (1 : Int) ≤ (n : Int) := by omega
     obtain ⟨B1, Hok0⟩ := hid2 b1 hok0; clear hok0 b1
     go_wp2_with (go_at_call 38; ((with_reducible refine (rtmWithin_at B1.out _).mono ?_); rintro e w1 ⟨rfl, rfl⟩))
     go_meet
     exact ⟨by simp; omega, rfl⟩
    ·have : ok0 = true := by rw [← hok0, b1]; simp [inB]; omega
     subst this
     have l1' : (1 : Int) ≤ (n : Int) := by omega
     have l2' : (n : Int) ≤ 8 := by omega
     obtain ⟨B1, Hok0⟩ := hid2 b1 hok0; clear hok0 b1
     go_wp2_with (go_at_call 38; ((with_reducible refine (rtmWithin_at B1.out _).mono ?_); rintro e w1 ⟨rfl, rfl⟩))
     go_meet
     exact ⟨rfl, rfl⟩
 case rest =>
  obtain ⟨rfl, rfl⟩ := hcut
  clear hok0
  go_wp2_with fail
  go_loopw [3, 4] (fun b c wr => ∃ (j : Nat) (ok : Bool), j ≤ n ∧ c = .int .i64 (j : Nat) ∧ b = .bool ok ∧ ok = (ok0 && (L.take j).all Tn.okB) ∧ Keeps (fun _ => False) w wr ∧ wr.heap[w.heap.size]? = some (.cells #[.int .i64 li, .slice ad n cap, .int .i64 cy, .int .i64 du, .int .i64 mf, .int .i64 mp, .int .i64 st] 24 (0, 0))) (fun _ c _ => n - (intOf c).toNat)
  case atStart => exact ⟨0, ok0, Nat.zero_le _, rfl, rfl, by simp, Keeps.alloc _ _, Hbox.out⟩
  case round =>
   obtain ⟨j, ok, hj, rfl, rfl, hok, hk, hb⟩ := hrel
   have hbl := lt_of_block hb
   have c1 : wr.cell? ⟨w.heap.size, 1, none⟩ = some (.slice ad n cap) := cell_of_cells hb 1
   by_cases hjl : j < n
   ·obtain ⟨⟨xr, xg⟩, hx⟩ := get_some (L := L) (k := j) (by rw [Hn.out]; exact hjl)
    obtain ⟨g, o, c, he, hc⟩ := (Hr.out.keeps hk (by simp)).elem Tn.cells_length hx (by decide)
    simp only [Value.slice.injEq, true_and] at he
    obtain ⟨rfl, rfl⟩ := he
    have x0 : wr.cell? ⟨g, o + j * 2, none⟩ = some (.int .i64 xr) := hc 0 (by decide)
    clear hc
    have hok' : (ok && inB xr 0 10000000) = (ok0 && (L.take (j + 1)).all Tn.okB) := by
     rw [take_snoc' hx, List.all_append, hok]; simp [Tn.okB, Bool.and_assoc]
    cases ok with
    | false =>
     obtain ⟨Hx, Hok, Hk, Hb, Hok'⟩ := hid5 hx hok hk hb hok'; clear hok' hb hk hok hx
     go_wp2_with fail
     go_roundw
     case rel => exact ⟨j + 1, false, by omega, by go_num, rfl, by rw [← Hok'.out]; rfl, Hk.out, Hb.out⟩
     case measure => simp [intOf]; omega
    | true =>
     rcases b3 : inB xr 0 10000000 with _ | _
     ·rw [b3] at hok'
      obtain ⟨Hx, Hok, Hk, Hb, Hok', B3⟩ := hid6 hx hok hk hb hok' b3; clear b3 hok' hb hk hok hx
      go_wp2_with (go_at_call 38; ((with_reducible refine (rtmWithin_at B3.out _).mono ?_); rintro e w1 ⟨rfl, rfl⟩))
      go_roundw
      case rel => exact ⟨j + 1, false, by omega, by go_num, rfl, by rw [← Hok'.out]; rfl, Hk.out, Hb.out⟩
      case measure => simp [intOf]; omega
     ·rw [b3] at hok'
      obtain ⟨Hx, Hok, Hk, Hb, Hok', B3⟩ := hid6 hx hok hk hb hok' b3; clear b3 hok' hb hk hok hx
      go_wp2_with (go_at_call 38; ((with_reducible refine (rtmWithin_at B3.out _).mono ?_); rintro e w1 ⟨rfl, rfl⟩))
      go_roundw
      case rel => exact ⟨j + 1, true, by omega, by go_num, rfl, by rw [← Hok'.out]; rfl, Hk.out, Hb.out⟩
      case measure => simp [intOf]; omega
   ·obtain rfl : j = n := by omega
    rw [List.take_of_length_le (by rw [Hn.out]; exact Nat.le_refl _)] at hok
    have hf1 := Hf0.out
    rw [← hok] at hf1
    have c2 : wr.cell? ⟨w.heap.size, 2, none⟩ = some (.int .i64 cy) := cell_of_cells hb 2
    have c3 : wr.cell? ⟨w.heap.size, 3, none⟩ = some (.int .i64 du) := cell_of_cells hb 3
    have c4 : wr.cell? ⟨w.heap.size, 4, none⟩ = some (.int .i64 mf) := cell_of_cells hb 4
    have c5 : wr.cell? ⟨w.heap.size, 5, none⟩ = some (.int .i64 mp) := cell_of_cells hb 5
    have c6 : wr.cell? ⟨w.heap.size, 6, none⟩ = some (.int .i64 st) := cell_of_cells hb 6
    cases ok with
    | false =>
     have hf : Tm.err ⟨li, cy, du, mf, mp, st, L⟩ = 6 := by rw [hf1]; simp
     obtain ⟨Hok, Hk, Hb, Hf, Hf1⟩ := hid5 hok hk hb hf hf1; clear hf1 hf hb hk hok
     go_wp2_with fail
     go_ret
     exact ⟨by rw [Hf.out]; rfl, Hk.out⟩
    | true =>
     rw [Bool.true_and] at hf1
     rcases bc : inB cy 1 28 with _ | _
     ·have hf : Tm.err ⟨li, cy, du, mf, mp, st, L⟩ = 6 := by rw [hf1, bc]; simp
      obtain ⟨Hok, Hk, Hb, Hf, Hf1, Bc⟩ := hid6 hok hk hb hf hf1 bc; clear bc hf1 hf hb hk hok
      go_wp2_with (go_at_call 38; ((with_reducible refine (rtmWithin_at Bc.out _).mono ?_); rintro e w1 ⟨rfl, rfl⟩))
      go_ret
      exact ⟨by rw [Hf.out]; rfl, Hk.out⟩
     rcases bd : inB du 1 25 with _ | _
     ·have hf : Tm.err ⟨li, cy, du, mf, mp, st, L⟩ = 6 := by rw [hf1, bd]; simp
      obtain ⟨Hok, Hk, Hb, Hf, Hf1, Bc, Bd⟩ := hid7 hok hk hb hf hf1 bc bd; clear bd bc hf1 hf hb hk hok
      go_wp2_with (first | (go_at_call 38; ((with_reducible refine (rtmWithin_at Bc.out _).mono ?_); rintro e w1 ⟨rfl, rfl⟩)) | (go_at_call 38; ((with_reducible refine (rtmWithin_at Bd.out _).mono ?_); rintro e w1 ⟨rfl, rfl⟩)))
      go_ret
      exact ⟨by rw [Hf.out]; rfl, Hk.out⟩
     rcases bf : inB mf 0 1000000000000000 with _ | _
     ·have hf : Tm.err ⟨li, cy, du, mf, mp, st, L⟩ = 6 := by rw [hf1, bf]; simp
      obtain ⟨Hok, Hk, Hb, Hf, Hf1, Bc, Bd, Bf⟩ := hid8 hok hk hb hf hf1 bc bd bf; clear bf bd bc hf1 hf hb hk hok
      go_wp2_with (first | (go_at_call 38; ((with_reducible refine (rtmWithin_at Bc.out _).mono ?_); rintro e w1 ⟨rfl, rfl⟩)) | (go_at_call 38; ((with_reducible refine (rtmWithin_at Bd.out _).mono ?_); rintro e w1 ⟨rfl, rfl⟩)) | (go_at_call 38; ((with_reducible refine (rtmWithin_at Bf.out _).mono ?_); rintro e w1 ⟨rfl, rfl⟩)))
      go_ret
      exact ⟨by rw [Hf.out]; rfl, Hk.out⟩
     rcases bp : inB mp 0 1000 with _ | _
     ·have hf : Tm.err ⟨li, cy, du, mf, mp, st, L⟩ = 6 := by rw [hf1, bp]; simp
      obtain ⟨Hok, Hk, Hb, Hf, Hf1, Bc, Bd, Bf, Bp⟩ := hid9 hok hk hb hf hf1 bc bd bf bp; clear bp bf bd bc hf1 hf hb hk hok
      go_wp2_with (first | (go_at_call 38; ((with_reducible refine (rtmWithin_at Bc.out _).mono ?_); rintro e w1 ⟨rfl, rfl⟩)) | (go_at_call 38; ((with_reducible refine (rtmWithin_at Bd.out _).mono ?_); rintro e w1 ⟨rfl, rfl⟩)) | (go_at_call 38; ((with_reducible refine (rtmWithin_at Bf.out _).mono ?_); rintro e w1 ⟨rfl, rfl⟩)) | (go_at_call 38; ((with_reducible refine (rtmWithin_at Bp.out _).mono ?_); rintro e w1 ⟨rfl, rfl⟩)))
      go_ret
      exact ⟨by rw [Hf.out]; rfl, Hk.out⟩
     rcases bs : inB st (-135140) 2922896 with _ | _
     ·have hf : Tm.err ⟨li, cy, du, mf, mp, st, L⟩ = 6 := by rw [hf1, bs]; simp
      obtain ⟨Hok, Hk, Hb, Hf, Hf1, Bc, Bd, Bf, Bp⟩ := hid9 hok hk hb hf hf1 bc bd bf bp; clear bp bf bd bc hf1 hf hb hk hok; have Bs := Lib.hid bs; clear bs
      go_wp2_with (first | (go_at_call 38; ((with_reducible refine (rtmWithin_at Bc.out _).mono ?_); rintro e w1 ⟨rfl, rfl⟩)) | (go_at_call 38; ((with_reducible refine (rtmWithin_at Bd.out _).mono ?_); rintro e w1 ⟨rfl, rfl⟩)) | (go_at_call 38; ((with_reducible refine (rtmWithin_at Bf.out _).mono ?_); rintro e w1 ⟨rfl, rfl⟩)) | (go_at_call 38; ((with_reducible refine (rtmWithin_at Bp.out _).mono ?_); rintro e w1 ⟨rfl, rfl⟩)) | (go_at_call 38; ((with_reducible refine (rtmWithin_at Bs.out _).mono ?_); rintro e w1 ⟨rfl, rfl⟩)))
      go_ret
      exact ⟨by rw [Hf.out]; rfl, Hk.out⟩
     have hf : Tm.err ⟨li, cy, du, mf, mp, st, L⟩ = 0 := by rw [hf1, bc, bd, bf, bp, bs]; simp
     obtain ⟨Hok, Hk, Hb, Hf, Hf1, Bc, Bd, Bf, Bp⟩ := hid9 hok hk hb hf hf1 bc bd bf bp; clear bp bf bd bc hf1 hf hb hk hok; have Bs := Lib.hid bs; clear bs
     go_wp2_with (first | (go_at_call 38; ((with_reducible refine (rtmWithin_at Bc.out _).mono ?_); rintro e w1 ⟨rfl, rfl⟩)) | (go_at_call 38; ((with_reducible refine (rtmWithin_at Bd.out _).mono ?_); rintro e w1 ⟨rfl, rfl⟩)) | (go_at_call 38; ((with_reducible refine (rtmWithin_at Bf.out _).mono ?_); rintro e w1 ⟨rfl, rfl⟩)) | (go_at_call 38; ((with_reducible refine (rtmWithin_at Bp.out _).mono ?_); rintro e w1 ⟨rfl, rfl⟩)) | (go_at_call 38; ((with_reducible refine (rtmWithin_at Bs.out _).mono ?_); rintro e w1 ⟨rfl, rfl⟩)))
     go_ret
     exact ⟨by rw [Hf.out]; rfl, Hk.out⟩
theorem rtmRight_bigAt (t : Tm) (v : Value) (w : World) {z : Int} (hz : t.err = z) (hr : Reads w 2 v t.trs.length (t.trs.flatMap Tn.cells)) (hl : t.trs.length ≤ 9223372036854775807) :
  Calls Try.prog 24 #[.agg #[.int .i64 t.limit, v, .int .i64 t.cyc, .int .i64 t.due, .int .i64 t.minFixed, .int .i64 t.minPart, .int .i64 t.start]] w fun e w' => e = .returned (.int .i64 z) ∧ Keeps (fun _ => False) w w' := by
 have hr' := hr
 obtain ⟨ad, c, rfl, _⟩ := hr'
 subst hz
 exact rtmRight_big t ad c w hr hl
end Go.Proofs.Ythcmpcekmkioaaa
namespace Go.Proofs.Ythcmpcekmkioaaa
open Go.RowKit
theorem info_tTr : (Try.prog.info? 67).map (fun i => (i.zero, i.size, i.bytes)) = some (some (.agg #[.int .i64 0, .bool false]), 2, 16) := by kernel_rfl
theorem store7 {W : World} {R : Nat} {t : TypeId} {a0 a1 a2 a3 a4 a5 a6 : Value} (h : W.heap[R]? = some (.cells #[a0, a1, a2, a3, a4, a5, a6] t (0, 0))) (v0 v1 v2 v3 v4 v5 v6 : Value) :
  (((((((W.setCell ⟨R, 0, none⟩ v0).setCell ⟨R, 1, none⟩ v1).setCell ⟨R, 2, none⟩ v2).setCell ⟨R, 3, none⟩ v3).setCell ⟨R, 4, none⟩ v4).setCell ⟨R, 5, none⟩ v5).setCell ⟨R, 6, none⟩ v6).heap[R]? = some (.cells #[v0, v1, v2, v3, v4, v5, v6] t (0, 0)) ∧ Keeps (fun i => i = R) W (((((((W.setCell ⟨R, 0, none⟩ v0).setCell ⟨R, 1, none⟩ v1).setCell ⟨R, 2, none⟩ v2).setCell ⟨R, 3, none⟩ v3).setCell ⟨R, 4, none⟩ v4).setCell ⟨R, 5, none⟩ v5).setCell ⟨R, 6, none⟩ v6) := by
 have h0 : (W.setCell ⟨R, 0, none⟩ v0).heap[R]? = some (.cells #[v0, a1, a2, a3, a4, a5, a6] t (0, 0)) := (heap_setCell_same _ _ 0 _ _ _ h).trans rfl
 have h1 : ((W.setCell ⟨R, 0, none⟩ v0).setCell ⟨R, 1, none⟩ v1).heap[R]? = some (.cells #[v0, v1, a2, a3, a4, a5, a6] t (0, 0)) := (heap_setCell_same _ _ 1 _ _ _ h0).trans rfl
 have h2 : (((W.setCell ⟨R, 0, none⟩ v0).setCell ⟨R, 1, none⟩ v1).setCell ⟨R, 2, none⟩ v2).heap[R]? = some (.cells #[v0, v1, v2, a3, a4, a5, a6] t (0, 0)) := (heap_setCell_same _ _ 2 _ _ _ h1).trans rfl
 have h3 : ((((W.setCell ⟨R, 0, none⟩ v0).setCell ⟨R, 1, none⟩ v1).setCell ⟨R, 2, none⟩ v2).setCell ⟨R, 3, none⟩ v3).heap[R]? = some (.cells #[v0, v1, v2, v3, a4, a5, a6] t (0, 0)) := (heap_setCell_same _ _ 3 _ _ _ h2).trans rfl
 have h4 : (((((W.setCell ⟨R, 0, none⟩ v0).setCell ⟨R, 1, none⟩ v1).setCell ⟨R, 2, none⟩ v2).setCell ⟨R, 3, none⟩ v3).setCell ⟨R, 4, none⟩ v4).heap[R]? = some (.cells #[v0, v1, v2, v3, v4, a5, a6] t (0, 0)) := (heap_setCell_same _ _ 4 _ _ _ h3).trans rfl
 have h5 : ((((((W.setCell ⟨R, 0, none⟩ v0).setCell ⟨R, 1, none⟩ v1).setCell ⟨R, 2, none⟩ v2).setCell ⟨R, 3, none⟩ v3).setCell ⟨R, 4, none⟩ v4).setCell ⟨R, 5, none⟩ v5).heap[R]? = some (.cells #[v0, v1, v2, v3, v4, v5, a6] t (0, 0)) := (heap_setCell_same _ _ 5 _ _ _ h4).trans rfl
 have h6 : (((((((W.setCell ⟨R, 0, none⟩ v0).setCell ⟨R, 1, none⟩ v1).setCell ⟨R, 2, none⟩ v2).setCell ⟨R, 3, none⟩ v3).setCell ⟨R, 4, none⟩ v4).setCell ⟨R, 5, none⟩ v5).setCell ⟨R, 6, none⟩ v6).heap[R]? = some (.cells #[v0, v1, v2, v3, v4, v5, v6] t (0, 0)) := (heap_setCell_same _ _ 6 _ _ _ h5).trans rfl
 have k0 : Keeps (fun i => i = R) W (W.setCell ⟨R, 0, none⟩ v0) := Keeps.setCell _ _ _ rfl
 have k1 := k0.trans (Keeps.setCell (S := fun j => j = R ∨ W.heap.size ≤ j) (W.setCell ⟨R, 0, none⟩ v0) ⟨R, 1, none⟩ v1 (.inl rfl))
 have k2 := k1.trans (Keeps.setCell (S := fun j => j = R ∨ W.heap.size ≤ j) ((W.setCell ⟨R, 0, none⟩ v0).setCell ⟨R, 1, none⟩ v1) ⟨R, 2, none⟩ v2 (.inl rfl))
 have k3 := k2.trans (Keeps.setCell (S := fun j => j = R ∨ W.heap.size ≤ j) (((W.setCell ⟨R, 0, none⟩ v0).setCell ⟨R, 1, none⟩ v1).setCell ⟨R, 2, none⟩ v2) ⟨R, 3, none⟩ v3 (.inl rfl))
 have k4 := k3.trans (Keeps.setCell (S := fun j => j = R ∨ W.heap.size ≤ j) ((((W.setCell ⟨R, 0, none⟩ v0).setCell ⟨R, 1, none⟩ v1).setCell ⟨R, 2, none⟩ v2).setCell ⟨R, 3, none⟩ v3) ⟨R, 4, none⟩ v4 (.inl rfl))
 have k5 := k4.trans (Keeps.setCell (S := fun j => j = R ∨ W.heap.size ≤ j) (((((W.setCell ⟨R, 0, none⟩ v0).setCell ⟨R, 1, none⟩ v1).setCell ⟨R, 2, none⟩ v2).setCell ⟨R, 3, none⟩ v3).setCell ⟨R, 4, none⟩ v4) ⟨R, 5, none⟩ v5 (.inl rfl))
 have k6 := k5.trans (Keeps.setCell (S := fun j => j = R ∨ W.heap.size ≤ j) ((((((W.setCell ⟨R, 0, none⟩ v0).setCell ⟨R, 1, none⟩ v1).setCell ⟨R, 2, none⟩ v2).setCell ⟨R, 3, none⟩ v3).setCell ⟨R, 4, none⟩ v4).setCell ⟨R, 5, none⟩ v5) ⟨R, 6, none⟩ v6 (.inl rfl))
 exact ⟨h6, k6⟩
def pF (x : Tn) : Tn := ⟨uq x.rate 3000000, x.grace⟩
structure PtAt (w2 : World) (B b3 : Nat) (E0 E2 : Array Value) (l c d f p st : Int) (L : List Tn) (i : Nat) (v : Value) (wx : World) : Prop where
 h0 : wx.heap[B]? = some (.cells E0 24 (0, 0))
 h2 : wx.heap[B + 1]? = some (.cells E2 24 (0, 0))
 h3 : wx.heap[b3]? = some (.cells #[.int .i64 l, v, .int .i64 c, .int .i64 d, .int .i64 f, .int .i64 p, .int .i64 st] 24 (0, 0))
 row : wx.ownsRow 0 67 2 v i (((L.take i).map pF).flatMap Tn.cells)
 nw : ∀ g, v.ownBlock = some g → w2.heap.size ≤ g
 kp : Keeps (fun i => i = b3) w2 wx
theorem PtAt.app {w2 : World} {B b3 : Nat} {E0 E2 : Array Value} {l c d f p st : Int} {L : List Tn} {i : Nat} {v v9 : Value} {wx w8 w9 : World} {x : Tn} (h : PtAt w2 B b3 E0 E2 l c d f p st L i v wx) (hB : ¬ B = b3) (hB1 : ¬ B + 1 = b3) (hx : L[i]? = some x) (hk8 : Keeps (fun _ => False) wx w8) (hr : w9.ownsRow 0 67 2 v9 (i + 1) (((L.take i).map pF).flatMap Tn.cells ++ (pF x).cells))
  (hk : Keeps (fun k => v.ownBlock = some k) w8 w9) (hf : v9.ownBlock = v.ownBlock ∨ ∃ g, v9.ownBlock = some g ∧ w8.heap.size ≤ g) : PtAt w2 B b3 E0 E2 l c d f p st L (i + 1) v9 (w9.setCell ⟨b3, 1, none⟩ v9) := by
 have hv : ∀ {b : Nat} {cs : Array Value}, wx.heap[b]? = some (.cells cs 24 (0, 0)) → ¬ v.ownBlock = some b := fun hb => ownsRow_ne h.row hb (by decide)
 have kb : Keeps (fun i => i = b3) w9 (w9.setCell ⟨b3, 1, none⟩ v9) := Keeps.setCell _ _ _ rfl
 have c0 := box_old (box_old (box_old h.h0 hk8 (by simp)) hk (hv h.h0)) kb hB
 have c2 := box_old (box_old (box_old h.h2 hk8 (by simp)) hk (hv h.h2)) kb hB1
 have c3 := box_old (box_old h.h3 hk8 (by simp)) hk (hv h.h3)
 have hne : ∀ k, v9.ownBlock = some k → ¬ k = b3 := fun k hk' e => by
  subst e
  exact ownsRow_ne hr c3 (by decide) hk'
 refine ⟨c0, c2, (heap_setCell_same _ _ 1 _ _ _ c3).trans rfl, ?_, ?_, ?_⟩
 ·rw [take_snoc' hx, List.map_append, List.flatMap_append]
  simpa using kb.row hr hne
 ·intro g hg
  rcases hf with e | ⟨g', e1, e2⟩
  ·rw [e] at hg; exact h.nw g hg
  ·rw [e1] at hg; injection hg with hg; have := h.kp.size; have := hk8.size; omega
 ·exact ((h.kp.trans (hk8.mono (by simp))).trans (hk.mono fun i _ e => .inr (h.nw i e))).trans (kb.mono fun i _ e => .inl e)
def pt8 (b3 B : Nat) (v vs : Value) (g o : Nat) (r : Int) (gr : Bool) (W : World) : Prop := W.cell? ⟨b3, 1, none⟩ = some v ∧ W.cell? ⟨B, 1, none⟩ = some vs ∧ W.cell? ⟨g, o, none⟩ = some (.int .i64 r) ∧ W.cell? ⟨g, o + 1, none⟩ = some (.bool gr)
theorem pt8.keep {b3 B : Nat} {v vs : Value} {g o : Nat} {r : Int} {gr : Bool} {W W' : World} {S : Nat → Prop} (h : pt8 b3 B v vs g o r gr W) (hk : Keeps S W W') (h1 : ¬ S b3) (h2 : ¬ S B) (h3 : ¬ S g) : pt8 b3 B v vs g o r gr W' :=
 ⟨(hk.cell (cell_lt h.1) h1).trans h.1, (hk.cell (cell_lt h.2.1) h2).trans h.2.1, (hk.cell (cell_lt h.2.2.1) h3).trans h.2.2.1, (hk.cell (cell_lt h.2.2.2) h3).trans h.2.2.2⟩
set_option maxRecDepth 100000 in
set_option maxHeartbeats 1600000 in
theorem playTerms_any (t : Tm) (adt : Option Addr) (ct n : Nat) (w : World) (hn : t.trs.length = n) (htr : Reads w 2 (.slice adt n ct) n (t.trs.flatMap Tn.cells)) (htl : n ≤ 9223372036854775807) :
  Calls Try.prog 12 #[.agg #[.int .i64 t.limit, .slice adt n ct, .int .i64 t.cyc, .int .i64 t.due, .int .i64 t.minFixed, .int .i64 t.minPart, .int .i64 t.start]] w fun e w' => ∃ v, e = .returned (.agg #[.int .i64 (playT t).limit, v, .int .i64 (playT t).cyc, .int .i64 (playT t).due, .int .i64 (playT t).minFixed, .int .i64 (playT t).minPart, .int .i64 (playT t).start]) ∧ Reads w' 2 v (playT t).trs.length ((playT t).trs.flatMap Tn.cells) ∧ Keeps (fun _ => False) w w' ∧ (v = .slice adt n ct ∨ ∀ g, v.ownBlock = some g → w.heap.size ≤ g) := by
 obtain ⟨i0, hi, hi0, hi1, hi2⟩ := info_parts info_tTr
 obtain ⟨q, hq⟩ : ∃ q, uq t.start 400 = q := ⟨_, rfl⟩
 have hu0 : ∀ x, 0 ≤ IntKind.u64.wrap x := fun x => by rw [IntKind.wrap_u64]; omega
 have hqt : (IntKind.u64.wrap t.start).tmod 400 = q := by rw [Int.tmod_eq_emod_of_nonneg (hu0 _)]; exact hq
 obtain ⟨q0, q1⟩ := uq_bd t.start (m := 400) (by decide)
 rw [hq] at q0 q1
 have hrt := fun W (hW : Keeps (fun _ => False) w W) => rtmRight_bigAt { t with start := 10957 + q } (.slice adt n ct) W rfl (by rw [← hn] at *; exact htr.keeps hW (by simp)) (by rw [← hn] at htl; exact htl)
 obtain ⟨E, hE⟩ : ∃ E, ({ t with start := 10957 + q } : Tm).err = E := ⟨_, rfl⟩
 rw [hE] at hrt
 have hE2 := Tm.err_or { t with start := 10957 + q }
 rw [hE] at hE2
 dsimp only at hrt
 obtain ⟨Z, hZ⟩ : ∃ Z, playT t = Z := ⟨_, rfl⟩
 have hZ2 := hZ
 unfold playT at hZ2
 rw [hq, hE] at hZ2
 rw [hZ]
 obtain ⟨Hi, Hi0, Hi1, Hi2, Hq, Hrt, HE, HZ, Hu0⟩ := hid9 hi hi0 hi1 hi2 hq hrt hE hZ hu0; clear hu0 hZ hE hrt hq hi2 hi1 hi0 hi; obtain ⟨Htr, Hn, HZ2⟩ := hid3 htr hn hZ2; clear hZ2 hn htr
 go_enter Try.func12, Try.ntmps12
 go_wp2_with fail
 refine (Hrt.out _ (by (repeat (first | exact Keeps.refl _ _ | exact Keeps.alloc _ _ | exact Keeps.drew _ | exact Keeps.drewN _ _ | refine Keeps.trans_drew ?_ | refine Keeps.trans_drewN ?_ | refine Keeps.trans_alloc ?_)))).mono ?_
 rintro e w1 ⟨rfl, hk1⟩
 have hb0 := box_old (box_alloc (heap_alloc_new w _) _) hk1 (by simp)
 have hb2 := box_new hk1 (by simp)
 rw [World.size_alloc] at hb2
 have hk0 : Keeps (fun _ => False) w w1 := Keeps.nt (by (repeat (first | exact Keeps.refl _ _ | exact Keeps.alloc _ _ | exact Keeps.drew _ | exact Keeps.drewN _ _ | refine Keeps.trans_drew ?_ | refine Keeps.trans_drewN ?_ | refine Keeps.trans_alloc ?_))) hk1
 clear hk1
 rcases hE2 with rfl | rfl
 ·have hZ3 := HZ2.out
  rw [if_pos rfl] at hZ3
  have t0 := cell_of_cells (hb0) 0
  have t1 := cell_of_cells (hb0) 1
  have t2 := cell_of_cells (hb0) 2
  have t3 := cell_of_cells (hb0) 3
  have t4 := cell_of_cells (hb0) 4
  have t5 := cell_of_cells (hb0) 5
  have t6 := cell_of_cells (hb0) 6
  have tl := lt_of_block (hb0)
  have s0 := cell_of_cells (hb2) 0
  have s1 := cell_of_cells (hb2) 1
  have s2 := cell_of_cells (hb2) 2
  have s3 := cell_of_cells (hb2) 3
  have s4 := cell_of_cells (hb2) 4
  have s5 := cell_of_cells (hb2) 5
  have s6 := cell_of_cells (hb2) 6
  have sl := lt_of_block (hb2)
  have f0 := free_of_cells (hb2) 0
  have f1 := free_of_cells (hb2) 1
  have f2 := free_of_cells (hb2) 2
  have f3 := free_of_cells (hb2) 3
  have f4 := free_of_cells (hb2) 4
  have f5 := free_of_cells (hb2) 5
  have f6 := free_of_cells (hb2) 6
  obtain ⟨hb3, hk3⟩ := store7 hb2 (.int .i64 t.limit) (.slice adt n ct) (.int .i64 t.cyc) (.int .i64 t.due) (.int .i64 t.minFixed) (.int .i64 t.minPart) (.int .i64 (10957 + q))
  have hkz := hk0.trans (hk3.mono fun i _ e => .inr (by have e' : i = w.heap.size + 1 := e; omega))
  have hrz : ∀ W, Keeps (fun _ => False) w W → Reads W 2 (.slice adt n ct) Z.trs.length (Z.trs.flatMap Tn.cells) := fun W hW => by rw [← hZ3]; show Reads W 2 _ t.trs.length (t.trs.flatMap Tn.cells); rw [Hn.out]; exact Htr.out.keeps hW (by simp)
  obtain ⟨Hb0, Hb2, Hk0, HZ3, Hb3, Hk3, Hkz, Hrz⟩ := hid8 hb0 hb2 hk0 hZ3 hb3 hk3 hkz hrz; clear hrz hkz hk3 hb3 hZ3 hk0 hb2 hb0
  go_wp2
  clear s0 s1 s2 s3 s4 s5 s6
  have r0 := cell_of_cells (Hb3.out) 0
  have r1 := cell_of_cells (Hb3.out) 1
  have r2 := cell_of_cells (Hb3.out) 2
  have r3 := cell_of_cells (Hb3.out) 3
  have r4 := cell_of_cells (Hb3.out) 4
  have r5 := cell_of_cells (Hb3.out) 5
  have r6 := cell_of_cells (Hb3.out) 6
  exact bodyPost_ret (v := .agg #[.int .i64 (t.limit), .slice adt n ct, .int .i64 (t.cyc), .int .i64 (t.due), .int .i64 (t.minFixed), .int .i64 (t.minPart), .int .i64 (10957 + q)]) (by simp [results, Try.results12, go_sem, r0, r1, r2, r3, r4, r5, r6]) rfl ⟨.slice adt n ct, by rw [← HZ3.out], Hrz.out _ Hkz.out, Hkz.out, .inl rfl⟩
 ·have hZ3 := HZ2.out
  rw [if_neg (by decide)] at hZ3
  obtain ⟨ul, hul⟩ : ∃ z, uq t.limit 100000 = z := ⟨_, rfl⟩
  have tul : (IntKind.u64.wrap t.limit).tmod 100000 = ul := by rw [Int.tmod_eq_emod_of_nonneg (Hu0.out _)]; exact hul
  have bul := uq_bd t.limit (m := 100000) (by decide)
  rw [hul] at bul
  obtain ⟨bul0, bul1⟩ := bul
  obtain ⟨uc, huc⟩ : ∃ z, uq t.cyc 28 = z := ⟨_, rfl⟩
  have tuc : (IntKind.u64.wrap t.cyc).tmod 28 = uc := by rw [Int.tmod_eq_emod_of_nonneg (Hu0.out _)]; exact huc
  have buc := uq_bd t.cyc (m := 28) (by decide)
  rw [huc] at buc
  obtain ⟨buc0, buc1⟩ := buc
  obtain ⟨ud, hud⟩ : ∃ z, uq t.due 25 = z := ⟨_, rfl⟩
  have tud : (IntKind.u64.wrap t.due).tmod 25 = ud := by rw [Int.tmod_eq_emod_of_nonneg (Hu0.out _)]; exact hud
  have bud := uq_bd t.due (m := 25) (by decide)
  rw [hud] at bud
  obtain ⟨bud0, bud1⟩ := bud
  obtain ⟨uf, huf⟩ : ∃ z, uq t.minFixed 100 = z := ⟨_, rfl⟩
  have tuf : (IntKind.u64.wrap t.minFixed).tmod 100 = uf := by rw [Int.tmod_eq_emod_of_nonneg (Hu0.out _)]; exact huf
  have buf := uq_bd t.minFixed (m := 100) (by decide)
  rw [huf] at buf
  obtain ⟨buf0, buf1⟩ := buf
  obtain ⟨up, hup⟩ : ∃ z, uq t.minPart 101 = z := ⟨_, rfl⟩
  have tup : (IntKind.u64.wrap t.minPart).tmod 101 = up := by rw [Int.tmod_eq_emod_of_nonneg (Hu0.out _)]; exact hup
  have bup := uq_bd t.minPart (m := 101) (by decide)
  rw [hup] at bup
  obtain ⟨bup0, bup1⟩ := bup
  rw [hul, huc, hud, huf, hup] at hZ3
  obtain ⟨B, hBe⟩ : ∃ x, x = w.heap.size := ⟨_, rfl⟩
  obtain ⟨b3, hb3e⟩ : ∃ x, x = w1.heap.size := ⟨_, rfl⟩
  have hs0 : B + 1 < b3 := by rw [hBe, hb3e]; exact lt_of_block hb2
  rw [← hBe] at hb0 hb2
  obtain ⟨w2, hw2⟩ : ∃ x, x = w1.alloc (.cells #[.int .i64 ul, .slice none 0 0, .int .i64 (1 + uc), .int .i64 (1 + ud), .int .i64 uf, .int .i64 up, .int .i64 (10957 + q)] 24) := ⟨_, rfl⟩
  have hst : PtAt w2 B b3 #[.int .i64 t.limit, .slice adt n ct, .int .i64 t.cyc, .int .i64 t.due, .int .i64 t.minFixed, .int .i64 t.minPart, .int .i64 (10957 + q)] #[.int .i64 0, .slice none 0 0, .int .i64 0, .int .i64 0, .int .i64 0, .int .i64 0, .int .i64 0] ul (1 + uc) (1 + ud) uf up (10957 + q) t.trs 0 (.slice none 0 0) w2 :=
   ⟨by rw [hw2]; exact box_alloc hb0 _, by rw [hw2]; exact box_alloc hb2 _, by rw [hw2, hb3e]; exact heap_alloc_new w1 _, World.ownsRow_nil _ _ _ _, by simp [Value.ownBlock], Keeps.refl _ _⟩
  have hk2 : Keeps (fun _ => False) w w2 := by rw [hw2]; exact hk0.nt (Keeps.alloc _ _)
  have hb3w : w.heap.size ≤ b3 := by rw [← hBe]; omega
  have hb3s : b3 < w2.heap.size := lt_of_block hst.h3
  rw [← hBe]
  have t0 := cell_of_cells (hb0) 0
  have t1 := cell_of_cells (hb0) 1
  have t2 := cell_of_cells (hb0) 2
  have t3 := cell_of_cells (hb0) 3
  have t4 := cell_of_cells (hb0) 4
  have t5 := cell_of_cells (hb0) 5
  have t6 := cell_of_cells (hb0) 6
  have tl := lt_of_block (hb0)
  obtain ⟨Hb0, Hb2, Hk0, HZ3, Hul, Huc, Hud, Huf, Hup⟩ := hid9 hb0 hb2 hk0 hZ3 hul huc hud huf hup; clear hup huf hud huc hul hZ3 hk0 hb2 hb0; obtain ⟨Hst, Hk2, HBe, Hs0, Hb3w, Hb3s⟩ := hid6 hst hk2 hBe hs0 hb3w hb3s; clear hb3s hb3w hs0 hBe hk2 hst
  go_wp2
  rw [← hw2]
  clear hw2 t0 t1 t2 t3 t4 t5 t6 tl
  rw [← hb3e]
  clear hb3e
  go_loopw [4] (fun x wx => ∃ (i : Nat) (v : Value), x = .int .i64 (i : Nat) ∧ i ≤ n ∧ i ≤ 8 ∧ PtAt w2 B b3 #[.int .i64 t.limit, .slice adt n ct, .int .i64 t.cyc, .int .i64 t.due, .int .i64 t.minFixed, .int .i64 t.minPart, .int .i64 (10957 + q)] #[.int .i64 0, .slice none 0 0, .int .i64 0, .int .i64 0, .int .i64 0, .int .i64 0, .int .i64 0] ul (1 + uc) (1 + ud) uf up (10957 + q) t.trs i v wx) (fun x _ => 8 - (intOf x).toNat)
  case atStart => exact ⟨0, _, rfl, Nat.zero_le _, Nat.zero_le _, Hst.out⟩
  case round =>
   obtain ⟨i, v, rfl, hin, hi8, hat⟩ := hrel
   obtain ⟨wq, hwq⟩ : ∃ x, x = wr := ⟨_, rfl⟩
   subst hwq
   obtain ⟨av, cv, rfl⟩ : ∃ a c, v = .slice a i c := by obtain ⟨a, c, h, _⟩ := ownsRow_shape hat.row; exact ⟨a, c, h⟩
   have hkq : Keeps (fun _ => False) w wq := Hk2.out.trans (hat.kp.mono fun i _ e => .inr (by have e' : i = b3 := e; have := Hb3w.out; omega))
   by_cases hlt : i < n ∧ i < 8
   ·have hltI : (i : Int) < (n : Int) := by omega
    have hlt8 : (i : Int) < 8 := by omega
    obtain ⟨x, hx⟩ := get_some (L := t.trs) (k := i) (by rw [Hn.out]; exact hlt.1)
    obtain ⟨g, o, c', he, hc⟩ := (Htr.out.keeps hkq (by simp)).elem Tn.cells_length hx (by decide)
    simp only [Value.slice.injEq, true_and] at he
    obtain ⟨rfl, rfl⟩ := he
    obtain ⟨xr, xg⟩ := x
    have x0 : wq.cell? ⟨g, o + i * 2, none⟩ = some (.int .i64 xr) := hc 0 (by decide)
    have x1 : wq.cell? ⟨g, o + i * 2 + 1, none⟩ = some (.bool xg) := hc 1 (by decide)
    clear hc
    obtain ⟨ur, hur⟩ : ∃ z, uq xr 3000000 = z := ⟨_, rfl⟩
    have tur : (IntKind.u64.wrap xr).tmod 3000000 = ur := by rw [Int.tmod_eq_emod_of_nonneg (Hu0.out _)]; exact hur
    have bur := uq_bd xr (m := 3000000) (by decide)
    rw [hur] at bur
    obtain ⟨bur0, bur1⟩ := bur
    have hwr : IntKind.i64.wrap ur = ur := by rw [IntKind.wrap_i64]; omega
    have hS : pt8 b3 B (.slice av i cv) (.slice (some ⟨g, o, none⟩) n ct) g (o + i * 2) xr xg wq.drew := (show pt8 b3 B (.slice av i cv) (.slice (some ⟨g, o, none⟩) n ct) g (o + i * 2) xr xg wq from ⟨cell_of_cells hat.h3 1, cell_of_cells hat.h0 1, x0, x1⟩).keep (S := fun _ => False) (Keeps.drew _) (by simp) (by simp) (by simp)
    have hne3 : ¬ (Value.slice av i cv).ownBlock = some b3 := ownsRow_ne hat.row hat.h3 (by decide)
    have hneB : ¬ (Value.slice av i cv).ownBlock = some B := ownsRow_ne hat.row hat.h0 (by decide)
    have hneg : ¬ (Value.slice av i cv).ownBlock = some g := fun e => by
     have h1 := hat.nw g e
     have h2 := Htr.out.lt (fun e => by rw [List.flatMap_eq_nil_iff] at e; have := e _ (List.mem_of_getElem? hx); simp [Tn.cells] at this)
     obtain ⟨g', e1, e2⟩ := h2
     simp only [Value.ownBlock, Option.some.injEq] at e1
     have := Hk2.out.size
     omega
    have hbB := lt_of_block hat.h0
    have hb3q := lt_of_block hat.h3
    have hgl := cell_lt x0
    have c01 := cell_of_cells hat.h0 1
    obtain ⟨Hat, Hkq, Hx, Hur, HS, Hlt⟩ := hid6 hat hkq hx hur hS hlt; clear hlt hS hur hx hkq hat
    go_wp2_with fail
    clear x0 x1 c01
    refine wp_region_mixz (pt8 b3 B (.slice av i cv) (.slice (some ⟨g, o, none⟩) n ct) g (o + i * 2) xr xg) 21 (.take 0 (.take 1 (.take 2 (.take 3 (.take 4 (.take 5 (.take 6 (.take 7 (.take 8 (.take 9 (.take 10 (.take 11 (.take 12 (.take 13 (.take 14 (.take 15 (.take 16 (.take 17 (.move 18 (.move 19 (.take 20 (.move 21 .done)))))))))))))))))))))) (by kernel_rfl) (by kernel_rfl) ?_ ?_
    ·exact HS.out
    intro w8 hs8 hk8
    repeat (first
     | (refine mix_skip rfl (by rfl) ?_; try simp only [Act.put, List.setIfInBounds_toArray, List.set_cons_zero, List.set_cons_succ])
     | (refine mix_skipm rfl (by rfl) ?_; try simp only [Act.put, List.setIfInBounds_toArray, List.set_cons_zero, List.set_cons_succ])
     | (refine mix_take (v := ?_) rfl (by rfl) ?_ ?_; rotate_left; (· intro w' hSw; unfold pt8 at hSw; go_simp; (try with_reducible rfl)); rotate_right; try simp only [Act.put, List.setIfInBounds_toArray, List.set_cons_zero, List.set_cons_succ]))
    refine mix_move rfl (fun K hK => ?_)
    go_simp
    refine hK.out _ _ (by exact hs8.keep (S := fun _ => False) (Keeps.alloc _ _) (by simp) (by simp) (by simp)) ?_
    clear hK K
    try simp only [Act.put, List.setIfInBounds_toArray, List.set_cons_zero, List.set_cons_succ]
    have hk8a := hk8.nt (Keeps.alloc w8 (.cells #[.int .i64 ur, .bool xg] 67))
    have hrow8 := Hat.out.row.of_keeps hk8a
    refine mix_move rfl (fun K hK => ?_)
    refine step_append_row rfl (.tmp 58) (.tmp 75) 22 rfl 0 67 i0 _ 2 16 Try.underlying22 Hi.out Hi0.out Hi1.out Hi2.out rfl (by decide) (.slice av i cv) i _ rfl hrow8 _ 1 _ rfl (Reads.litAt _ _ _ 2 1 _ (by first | rfl | simp) rfl) (by simp [Value.oneCell']) (by unfold maxLen; omega) (by omega) (Nat.zero_le _) ?_
    intro v9 w9 hown9 hk9 hf9
    obtain ⟨a9, c9, rfl, _, _⟩ := ownsRow_shape hown9
    have happ := Hat.out.app (by have := Hs0.out; omega) (by have := Hs0.out; omega) Hx.out hk8a (by unfold pF; rw [Hur.out]; exact hown9) hk9 hf9
    have hb39 := box_old (box_old Hat.out.h3 hk8a (by simp)) hk9 hne3
    have o1 := cell_of_cells hb39 1
    have f1 := free_of_cells hb39 1
    have l1 := lt_of_block hb39
    refine hK.out _ _ (by exact (hs8.keep (S := fun _ => False) (Keeps.alloc _ _) (by simp) (by simp) (by simp)).keep hk9 hne3 hneB hneg) ?_
    clear hK K
    try simp only [Act.put, List.setIfInBounds_toArray, List.set_cons_zero, List.set_cons_succ]
    clear hs8
    obtain ⟨Hk8a, Hrow8, Happ, Hb39, Hown9, Hk9, Hk8⟩ := hid7 hk8a hrow8 happ hb39 hown9 hk9 hk8; clear hk8 hk9 hown9 hb39 happ hrow8 hk8a
    repeat (first
     | (refine mix_skip rfl (by rfl) ?_; try simp only [Act.put, List.setIfInBounds_toArray, List.set_cons_zero, List.set_cons_succ])
     | (refine mix_skipm rfl (by rfl) ?_; try simp only [Act.put, List.setIfInBounds_toArray, List.set_cons_zero, List.set_cons_succ])
     | (refine mix_take (v := ?_) rfl (by rfl) ?_ ?_; rotate_left; (· intro w' hSw; unfold pt8 at hSw; go_simp; (try with_reducible rfl)); rotate_right; try simp only [Act.put, List.setIfInBounds_toArray, List.set_cons_zero, List.set_cons_succ]))
    refine mix_last rfl (fun K hK => ?_)
    go_simp
    refine hK.out _ _ ?_
    clear hK K
    try simp only [Act.put, List.setIfInBounds_toArray, List.set_cons_zero, List.set_cons_succ]
    refine mix_done ?_
    clear o1 f1 l1
    go_wp2_with fail
    go_roundw
    case rel => exact ⟨i + 1, _, by go_num, by have := Hlt.out; omega, by have := Hlt.out; omega, Happ.out⟩
    case measure => simp [intOf]; omega
   ·have hmap : (t.trs.take i).map pF = (t.trs.take 8).map pF := by
     by_cases h8 : i = 8
     ·rw [h8]
     ·have : n = i := by omega
      rw [List.take_of_length_le (by rw [Hn.out]; omega), List.take_of_length_le (by rw [Hn.out]; omega)]
    have hlen : ((t.trs.take 8).map pF).length = i := by rw [← hmap, List.length_map, List.length_take, Hn.out]; omega
    have hpl : playTrs t.trs = if (t.trs.take 8).map pF = [] then [⟨500000, false⟩] else (t.trs.take 8).map pF := rfl
    have hrow := hat.row
    rw [hmap] at hrow
    have c01 := cell_of_cells hat.h0 1
    have hbB := lt_of_block hat.h0
    by_cases h0 : i = 0
    ·subst h0
     have hn0 : ¬ ((0 : Nat) : Int) < (n : Int) := by omega
     rw [if_pos (List.eq_nil_of_length_eq_zero hlen)] at hpl
     have hZ4 := HZ3.out
     rw [hpl] at hZ4
     have o1 := cell_of_cells hat.h3 1
     have f1 := free_of_cells hat.h3 1
     have l1 := lt_of_block hat.h3
     obtain ⟨W4, hW4⟩ : ∃ x, x = (wq.setCell ⟨b3, 1, none⟩ (.slice (some ⟨wq.heap.size, 0, none⟩) 1 1)).alloc (.cells #[.int .i64 500000, .bool false] 67) := ⟨_, rfl⟩
     have hk4 : Keeps (fun i => i = b3) wq W4 := by rw [hW4]; exact (Keeps.setCell (S := fun i => i = b3) wq _ _ rfl).trans (Keeps.alloc _ _)
     have hb34 : W4.heap[b3]? = some (.cells #[.int .i64 ul, .slice (some ⟨wq.heap.size, 0, none⟩) 1 1, .int .i64 (1 + uc), .int .i64 (1 + ud), .int .i64 uf, .int .i64 up, .int .i64 (10957 + q)] 24 (0, 0)) := by rw [hW4]; exact box_alloc ((heap_setCell_same _ _ 1 _ _ _ hat.h3).trans rfl) _
     have hb24 := box_old hat.h2 hk4 (by have := Hs0.out; omega)
     have hrd4 : Reads W4 2 (.slice (some ⟨wq.heap.size, 0, none⟩) 1 1) 1 ([(⟨500000, false⟩ : Tn)].flatMap Tn.cells) := by
      rw [hW4]
      exact Reads.litAt (n := 1) _ #[.int .i64 500000, .bool false] _ 2 _ (by simp) rfl
     have hkw4 : Keeps (fun _ => False) w W4 := hkq.trans (hk4.mono fun i _ e => .inr (by have e' : i = b3 := e; have := Hb3w.out; omega))
     obtain ⟨Hat, Hkq, Hmap, Hlen, Hpl, Hrow, Hlt, HZ4, Hk4⟩ := hid9 hat hkq hmap hlen hpl hrow hlt hZ4 hk4; clear hk4 hZ4 hlt hrow hpl hlen hmap hkq hat; obtain ⟨Hb34, Hb24, Hrd4, Hkw4⟩ := hid4 hb34 hb24 hrd4 hkw4; clear hkw4 hrd4 hb24 hb34
     go_upto_region 11 with fail
     rw [← hW4]
     clear hW4 o1 f1 l1
     have t0 := cell_of_cells (Hb34.out) 0
     have t1 := cell_of_cells (Hb34.out) 1
     have t2 := cell_of_cells (Hb34.out) 2
     have t3 := cell_of_cells (Hb34.out) 3
     have t4 := cell_of_cells (Hb34.out) 4
     have t5 := cell_of_cells (Hb34.out) 5
     have t6 := cell_of_cells (Hb34.out) 6
     have tl := lt_of_block (Hb34.out)
     have s0 := cell_of_cells (Hb24.out) 0
     have s1 := cell_of_cells (Hb24.out) 1
     have s2 := cell_of_cells (Hb24.out) 2
     have s3 := cell_of_cells (Hb24.out) 3
     have s4 := cell_of_cells (Hb24.out) 4
     have s5 := cell_of_cells (Hb24.out) 5
     have s6 := cell_of_cells (Hb24.out) 6
     have sl := lt_of_block (Hb24.out)
     have f0 := free_of_cells (Hb24.out) 0
     have f1 := free_of_cells (Hb24.out) 1
     have f2 := free_of_cells (Hb24.out) 2
     have f3 := free_of_cells (Hb24.out) 3
     have f4 := free_of_cells (Hb24.out) 4
     have f5 := free_of_cells (Hb24.out) 5
     have f6 := free_of_cells (Hb24.out) 6
     obtain ⟨hb5, hk5⟩ := store7 (Hb24.out) (.int .i64 ul) (.slice (some ⟨wq.heap.size, 0, none⟩) 1 1) (.int .i64 (1 + uc)) (.int .i64 (1 + ud)) (.int .i64 uf) (.int .i64 up) (.int .i64 (10957 + q))
     have hkz := (Hkw4.out).trans (hk5.mono fun i _ e => .inr (by have e' : i = B + 1 := e; have := HBe.out; omega))
     have hrz : Reads _ 2 (.slice (some ⟨wq.heap.size, 0, none⟩) 1 1) Z.trs.length (Z.trs.flatMap Tn.cells) := (by rw [← HZ4.out]; exact Hrd4.out.keeps hk5 (fun g hg e => by simp only [Value.ownBlock, Option.some.injEq] at hg; have e' : g = B + 1 := e; have := lt_of_block Hat.out.h2; omega))
     obtain ⟨Hb5, Hk5, Hkz, Hrz⟩ := hid4 hb5 hk5 hkz hrz; clear hrz hkz hk5 hb5
     go_wp2
     clear s0 s1 s2 s3 s4 s5 s6
     have r0 := cell_of_cells (Hb5.out) 0
     have r1 := cell_of_cells (Hb5.out) 1
     have r2 := cell_of_cells (Hb5.out) 2
     have r3 := cell_of_cells (Hb5.out) 3
     have r4 := cell_of_cells (Hb5.out) 4
     have r5 := cell_of_cells (Hb5.out) 5
     have r6 := cell_of_cells (Hb5.out) 6
     exact bodyPost_ret (v := .agg #[.int .i64 ul, .slice (some ⟨wq.heap.size, 0, none⟩) 1 1, .int .i64 (1 + uc), .int .i64 (1 + ud), .int .i64 uf, .int .i64 up, .int .i64 (10957 + q)]) (by simp [results, Try.results12, go_sem, r0, r1, r2, r3, r4, r5, r6]) rfl ⟨.slice (some ⟨wq.heap.size, 0, none⟩) 1 1, by rw [← HZ4.out], Hrz.out, Hkz.out, .inr (fun g hg => by simp only [Value.ownBlock, Option.some.injEq] at hg; have := Hkq.out.size; omega)⟩
    ·have hi0 : ((i : Int) == 0) = false := beq_eq_false_iff_ne.2 (by omega)
     rw [if_neg (fun e => by rw [e] at hlen; simp at hlen; omega)] at hpl
     have hZ4 := HZ3.out
     rw [hpl] at hZ4
     have hrd4 : Reads wq 2 (.slice av i cv) ((t.trs.take 8).map pF).length (((t.trs.take 8).map pF).flatMap Tn.cells) := by rw [hlen]; exact Reads.of_owns hrow
     have hnb : ¬ (Value.slice av i cv).ownBlock = some (B + 1) := ownsRow_ne hat.row hat.h2 (by decide)
     by_cases h8 : i < n
     ·have hltI : (i : Int) < (n : Int) := by omega
      have hlt8 : ¬ (i : Int) < 8 := by omega
      obtain ⟨Hat, Hkq, Hmap, Hlen, Hpl, Hrow, Hlt, HZ4, Hrd4⟩ := hid9 hat hkq hmap hlen hpl hrow hlt hZ4 hrd4; clear hrd4 hZ4 hlt hrow hpl hlen hmap hkq hat; have Hnb := Lib.hid hnb; clear hnb
      have t0 := cell_of_cells (Hat.out.h3) 0
      have t1 := cell_of_cells (Hat.out.h3) 1
      have t2 := cell_of_cells (Hat.out.h3) 2
      have t3 := cell_of_cells (Hat.out.h3) 3
      have t4 := cell_of_cells (Hat.out.h3) 4
      have t5 := cell_of_cells (Hat.out.h3) 5
      have t6 := cell_of_cells (Hat.out.h3) 6
      have tl := lt_of_block (Hat.out.h3)
      have s0 := cell_of_cells (Hat.out.h2) 0
      have s1 := cell_of_cells (Hat.out.h2) 1
      have s2 := cell_of_cells (Hat.out.h2) 2
      have s3 := cell_of_cells (Hat.out.h2) 3
      have s4 := cell_of_cells (Hat.out.h2) 4
      have s5 := cell_of_cells (Hat.out.h2) 5
      have s6 := cell_of_cells (Hat.out.h2) 6
      have sl := lt_of_block (Hat.out.h2)
      have f0 := free_of_cells (Hat.out.h2) 0
      have f1 := free_of_cells (Hat.out.h2) 1
      have f2 := free_of_cells (Hat.out.h2) 2
      have f3 := free_of_cells (Hat.out.h2) 3
      have f4 := free_of_cells (Hat.out.h2) 4
      have f5 := free_of_cells (Hat.out.h2) 5
      have f6 := free_of_cells (Hat.out.h2) 6
      obtain ⟨hb5, hk5⟩ := store7 (Hat.out.h2) (.int .i64 ul) (.slice av i cv) (.int .i64 (1 + uc)) (.int .i64 (1 + ud)) (.int .i64 uf) (.int .i64 up) (.int .i64 (10957 + q))
      have hkz := (Hkq.out).trans (hk5.mono fun i _ e => .inr (by have e' : i = B + 1 := e; have := HBe.out; omega))
      have hrz : Reads _ 2 (.slice av i cv) Z.trs.length (Z.trs.flatMap Tn.cells) := (by rw [← HZ4.out]; exact Hrd4.out.keeps hk5 (fun g hg e => by have e' : g = B + 1 := e; subst e'; exact Hnb.out hg))
      obtain ⟨Hb5, Hk5, Hkz, Hrz⟩ := hid4 hb5 hk5 hkz hrz; clear hrz hkz hk5 hb5
      go_wp2
      clear s0 s1 s2 s3 s4 s5 s6
      have r0 := cell_of_cells (Hb5.out) 0
      have r1 := cell_of_cells (Hb5.out) 1
      have r2 := cell_of_cells (Hb5.out) 2
      have r3 := cell_of_cells (Hb5.out) 3
      have r4 := cell_of_cells (Hb5.out) 4
      have r5 := cell_of_cells (Hb5.out) 5
      have r6 := cell_of_cells (Hb5.out) 6
      exact bodyPost_ret (v := .agg #[.int .i64 ul, .slice av i cv, .int .i64 (1 + uc), .int .i64 (1 + ud), .int .i64 uf, .int .i64 up, .int .i64 (10957 + q)]) (by simp [results, Try.results12, go_sem, r0, r1, r2, r3, r4, r5, r6]) rfl ⟨.slice av i cv, by rw [← HZ4.out], Hrz.out, Hkz.out, .inr (fun g hg => Nat.le_trans Hk2.out.size (Hat.out.nw g hg))⟩
     ·have hltI : ¬ (i : Int) < (n : Int) := by omega
      obtain ⟨Hat, Hkq, Hmap, Hlen, Hpl, Hrow, Hlt, HZ4, Hrd4⟩ := hid9 hat hkq hmap hlen hpl hrow hlt hZ4 hrd4; clear hrd4 hZ4 hlt hrow hpl hlen hmap hkq hat; have Hnb := Lib.hid hnb; clear hnb
      have t0 := cell_of_cells (Hat.out.h3) 0
      have t1 := cell_of_cells (Hat.out.h3) 1
      have t2 := cell_of_cells (Hat.out.h3) 2
      have t3 := cell_of_cells (Hat.out.h3) 3
      have t4 := cell_of_cells (Hat.out.h3) 4
      have t5 := cell_of_cells (Hat.out.h3) 5
      have t6 := cell_of_cells (Hat.out.h3) 6
      have tl := lt_of_block (Hat.out.h3)
      have s0 := cell_of_cells (Hat.out.h2) 0
      have s1 := cell_of_cells (Hat.out.h2) 1
      have s2 := cell_of_cells (Hat.out.h2) 2
      have s3 := cell_of_cells (Hat.out.h2) 3
      have s4 := cell_of_cells (Hat.out.h2) 4
      have s5 := cell_of_cells (Hat.out.h2) 5
      have s6 := cell_of_cells (Hat.out.h2) 6
      have sl := lt_of_block (Hat.out.h2)
      have f0 := free_of_cells (Hat.out.h2) 0
      have f1 := free_of_cells (Hat.out.h2) 1
      have f2 := free_of_cells (Hat.out.h2) 2
      have f3 := free_of_cells (Hat.out.h2) 3
      have f4 := free_of_cells (Hat.out.h2) 4
      have f5 := free_of_cells (Hat.out.h2) 5
      have f6 := free_of_cells (Hat.out.h2) 6
      obtain ⟨hb5, hk5⟩ := store7 (Hat.out.h2) (.int .i64 ul) (.slice av i cv) (.int .i64 (1 + uc)) (.int .i64 (1 + ud)) (.int .i64 uf) (.int .i64 up) (.int .i64 (10957 + q))
      have hkz := (Hkq.out).trans (hk5.mono fun i _ e => .inr (by have e' : i = B + 1 := e; have := HBe.out; omega))
      have hrz : Reads _ 2 (.slice av i cv) Z.trs.length (Z.trs.flatMap Tn.cells) := (by rw [← HZ4.out]; exact Hrd4.out.keeps hk5 (fun g hg e => by have e' : g = B + 1 := e; subst e'; exact Hnb.out hg))
      obtain ⟨Hb5, Hk5, Hkz, Hrz⟩ := hid4 hb5 hk5 hkz hrz; clear hrz hkz hk5 hb5
      go_wp2
      clear s0 s1 s2 s3 s4 s5 s6
      have r0 := cell_of_cells (Hb5.out) 0
      have r1 := cell_of_cells (Hb5.out) 1
      have r2 := cell_of_cells (Hb5.out) 2
      have r3 := cell_of_cells (Hb5.out) 3
      have r4 := cell_of_cells (Hb5.out) 4
      have r5 := cell_of_cells (Hb5.out) 5
      have r6 := cell_of_cells (Hb5.out) 6
      exact bodyPost_ret (v := .agg #[.int .i64 ul, .slice av i cv, .int .i64 (1 + uc), .int .i64 (1 + ud), .int .i64 uf, .int .i64 up, .int .i64 (10957 + q)]) (by simp [results, Try.results12, go_sem, r0, r1, r2, r3, r4, r5, r6]) rfl ⟨.slice av i cv, by rw [← HZ4.out], Hrz.out, Hkz.out, .inr (fun g hg => Nat.le_trans Hk2.out.size (Hat.out.nw g hg))⟩
end Go.Proofs.Ythcmpcekmkioaaa
namespace Go.Proofs.Ythcmpcekmkioaaa
open Go.RowKit
theorem run_copy_rowk {P : Program} (w : World) (dT sT ty elem : TypeId) (size g o dLen dCap : Nat) (a : Addr) (sLen sCap : Nat) (cur : Array Value) (t : TypeId) (cs : List Value)
  (hu : P.underlying dT = some (.slice elem)) (hs : (P.info? elem).map (·.size) = some size)
  (hg : w.heap[g]? = some (.cells cur t (0, 0))) (hn : cs.length = Nat.min sLen dLen * size)
  (hsrc : ∀ j v, cs[j]? = some v → w.cell? (a.add j) = some v) (hfit : o + cs.length ≤ cur.size) (h1 : ∀ v ∈ cs, v.oneCell' = true) :
  (Builtin.copy_ #[dT, sT] ty #[.slice (some ⟨g, o, none⟩) dLen dCap, .slice (some a) sLen sCap]).run P w =
   .ok (goInt (Nat.min sLen dLen)) (w.setRow g (cur.toList.take o ++ cs ++ cur.toList.drop (o + cs.length)).toArray) := by
 have hl := run_loadCells_list (P := P) w a cs hsrc
 have hst := run_storeCells_at P g o t cs 0 cur w hg (by simpa using hfit) h1
 cases hq : P.info? elem with
 | none => simp [hq] at hs
 | some i =>
  have hi : i.size = size := by simpa [hq] using hs
  simp [Builtin.copy_, run_underlying hu, Builtin.lenOf, Builtin.firstCells, sizeOf, typeInfo, hq, hi, ← hn, hl, hst]
theorem run_append_grow_zeros {P : Program} (w : World) (t tn ty e : TypeId) (i : TypeInfo) (z : Value) (kn : IntKind) (ht : P.underlying t = some (.slice e)) (htn : P.underlying tn = some (.int kn)) (hi : P.info? e = some i) (hz : i.zero = some z)
  (b : Addr) (sLen sCap : Nat) (olds : List Value) (hlo : olds.length = sLen * i.size) (holds : ∀ j v, olds[j]? = some v → w.cell? (b.add j) = some v)
  (n : Nat) (h0 : 0 < n) (hs : 0 < i.size) (hg : sCap < sLen + n) (h63 : ((sLen + n : Nat) : Int) ≤ 9223372036854775807) (h48 : n * i.bytes ≤ 281474976710656) (hfit : Builtin.nextslicecap (sLen + n) sCap * i.bytes ≤ 281474976710656) :
  (Builtin.append_ #[t, tn] ty #[.slice (some b) sLen sCap, .int kn n]).run P w =
   .ok (.slice (some ⟨w.heap.size, 0, none⟩) (sLen + n) (grownCap w (sLen + n) sCap e))
    (w.drew.alloc (.cells (olds.toArray ++ Builtin.zeroCells z.cells n ++ Builtin.zeroCells z.cells (grownCap w (sLen + n) sCap e - (sLen + n))) e)) := by
 have hn : n ≠ 0 := by omega
 have hn' : ¬ (sLen + n ≤ sCap) := by omega
 have hw : IntKind.i64.wrap (n : Int) = n := by rw [IntKind.wrap_i64]; omega
 have h63' : ¬ (9223372036854775807 < ((sLen : Int) + (n : Int))) := by omega
 have h48' : ¬ (281474976710656 < Builtin.nextslicecap (sLen + n) sCap * i.bytes) := by omega
 have h48i : ¬ (281474976710656 < (n : Int) * (i.bytes : Int)) := by
  rw [← Int.natCast_mul]
  omega
 have hneg : ¬ ((n : Int) < 0) := by omega
 have hns : ¬ (n * i.size = 0) := Nat.mul_ne_zero hn (by omega)
 have hfo := run_firstCells_some (P := P) w.drew i.size sLen b sLen sCap olds hlo (by simpa using holds)
 simp [Builtin.append_, run_underlying ht, run_underlying htn, sizeOf, typeInfo, zeroValue, hi, hz, asInt, asIntOf, hw, hn', hneg, hns, h63', h48', h48i, Question.forced, hfo, newRow, grownCap]
theorem ins_room {X1 X2 Z N : List Value} {a b s : Nat} (h1 : X1.length = a) (h2 : X2.length = b) (hN : N.length = s) (hz : s ≤ Z.length) (cur c1 : List Value) (hcur : cur = X1 ++ (X2 ++ Z)) (hc1 : c1 = cur.take (a + s) ++ X2 ++ cur.drop (a + s + X2.length)) :
  (c1.take a ++ N ++ c1.drop (a + N.length)).take (a + s + b) = X1 ++ N ++ X2 := by
 have e1 : cur.take (a + s) = X1 ++ (X2 ++ Z).take s := by rw [hcur, List.take_append, h1]; simp [List.take_of_length_le (show X1.length ≤ a + s by omega)]
 have l1 : ((X2 ++ Z).take s).length = s := by simp; omega
 have e2 : c1.take a = X1 := by
  rw [hc1, e1, List.append_assoc, List.append_assoc, List.take_append, h1]; simp [List.take_of_length_le (show X1.length ≤ a by omega)]
 have e3 : c1.drop (a + s) = X2 ++ cur.drop (a + s + X2.length) := by
  rw [hc1, e1, List.append_assoc, List.drop_append]
  simp only [List.length_append, h1, l1]
  rw [List.drop_eq_nil_of_le (by simp [h1, l1])]
  simp
 rw [hN, e2, e3, List.append_assoc, List.append_assoc, ← List.append_assoc X1, List.take_append]
 rw [List.take_of_length_le (by simp; omega)]
 simp only [List.length_append, h1, hN]
 rw [show a + s + b - (a + s) = b by omega, List.take_append, h2]
 simp [List.take_of_length_le (show X2.length ≤ b by omega)]
theorem ins_grow {X1 X2 Z N : List Value} {a b s : Nat} (h1 : X1.length = a) (h2 : X2.length = b) (hN : N.length = s) (_ : s + b ≤ Z.length) (cur c1 : List Value) (hcur : cur = X1 ++ Z) (hc1 : c1 = cur.take a ++ N ++ cur.drop (a + N.length)) :
  (c1.take (a + s) ++ X2 ++ c1.drop (a + s + X2.length)).take (a + s + b) = X1 ++ N ++ X2 := by
 have e1 : cur.take a = X1 := by rw [hcur, List.take_append, h1]; simp [List.take_of_length_le (show X1.length ≤ a by omega)]
 have e2 : c1.take (a + s) = X1 ++ N := by
  rw [hc1, e1, List.take_append]
  simp only [List.length_append, h1, hN]
  rw [List.take_of_length_le (by simp; omega)]
  simp
 rw [e2, List.take_append]
 simp only [List.length_append, h1, hN, h2]
 rw [List.take_of_length_le (by simp; omega), show a + s + b - (a + s + b) = 0 by omega]
 simp
def laid (cur : List Value) (o : Nat) (cs : List Value) : List Value := cur.take o ++ cs ++ cur.drop (o + cs.length)
theorem length_laid (cur : List Value) (o : Nat) (cs : List Value) (h : o + cs.length ≤ cur.length) : (laid cur o cs).length = cur.length := by simp [laid]; omega
theorem wpList_copy_rowk {P : Program} {w : World} {ops : Array Oper} {rest : List Oper} {o : Oper} {a : Act} {Q : Exit → Act → World → Prop} (hgd : o.guard = none) (d s : Operand) (dT sT : TypeId)
  (ho : o.op = .call { callee := .builtin .copy, args := #[d, s], argTypes := #[dT, sT] }) (elem : TypeId) (size : Nat) (hu : P.underlying dT = some (.slice elem)) (hsz : (P.info? elem).map (·.size) = some size)
  (g off dLen dCap : Nat) (ad : Addr) (sLen sCap : Nat) (hd : a.eval d = .slice (some ⟨g, off, none⟩) dLen dCap) (hs : a.eval s = .slice (some ad) sLen sCap)
  (cur : List Value) (t : TypeId) (hg : w.heap[g]? = some (.cells cur.toArray t (0, 0))) (cs : List Value) (m : Nat) (hm : Nat.min sLen dLen = m) (hn : cs.length = m * size)
  (hsrc : ∀ j v, cs[j]? = some v → w.cell? (ad.add j) = some v) (hfit : off + cs.length ≤ cur.length) (h1 : ∀ v ∈ cs, v.oneCell' = true)
  (h : ∀ w', w'.heap[g]? = some (.cells (laid cur off cs).toArray t (0, 0)) → Keeps (fun k => k = g) w w' → wpList P ops Q rest (a.put o.dst (.int .i64 (m : Int))) w') : wpList P ops Q (o :: rest) a w := by
 subst hm
 refine wpList_plain hgd fun K hK => ?_
 have hrun := run_copy_rowk (P := P) w dT sT o.type elem size g off dLen dCap ad sLen sCap cur.toArray t cs hu hsz hg hn hsrc (by simpa using hfit) h1
 unfold Oper.wp execOp
 simp only [ho, resolve, invoke, builtin, Sem.run_bind, Sem.run_pure, Result.andThen_ok, List.map_toArray, List.map_cons, List.map_nil, hd, hs, hrun]
 exact hK _ _ (h _ (setRow_heap w g _ _ t _ hg) ⟨rfl, rfl, rfl, by simp, fun k _ hk => setRow_other w g k _ hk⟩)
theorem step_copy_rowk {P : Program} {ops : Array Oper} {o : Oper} {a : Act} {w : World} {K : Act → World → Prop} {Q : Exit → Act → World → Prop} {E : Prop} (hgd : o.guard = none) (d s : Operand) (dT sT : TypeId)
  (ho : o.op = .call { callee := .builtin .copy, args := #[d, s], argTypes := #[dT, sT] }) (elem : TypeId) (size : Nat) (hu : P.underlying dT = some (.slice elem)) (hsz : (P.info? elem).map (·.size) = some size)
  (g off dLen dCap : Nat) (ad : Addr) (sLen sCap : Nat) (hd : a.eval d = .slice (some ⟨g, off, none⟩) dLen dCap) (hs : a.eval s = .slice (some ad) sLen sCap)
  (cur : List Value) (t : TypeId) (hg : w.heap[g]? = some (.cells cur.toArray t (0, 0))) (cs : List Value) (m : Nat) (hm : Nat.min sLen dLen = m) (hn : cs.length = m * size)
  (hsrc : ∀ j v, cs[j]? = some v → w.cell? (ad.add j) = some v) (hfit : off + cs.length ≤ cur.length) (h1 : ∀ v ∈ cs, v.oneCell' = true)
  (h : ∀ w', w'.heap[g]? = some (.cells (laid cur off cs).toArray t (0, 0)) → Keeps (fun k => k = g) w w' → K (a.put o.dst (.int .i64 (m : Int))) w') :
  if Region.wanted o (yielded ops a.tmps) = true then Oper.wp P o a w K Q else E := by
 have hw : Region.wanted o (yielded ops a.tmps) = true := by simp [Region.wanted, hgd]
 rw [if_pos hw]
 subst hm
 have hrun := run_copy_rowk (P := P) w dT sT o.type elem size g off dLen dCap ad sLen sCap cur.toArray t cs hu hsz hg hn hsrc (by simpa using hfit) h1
 unfold Oper.wp execOp
 simp only [ho, resolve, invoke, builtin, Sem.run_bind, Sem.run_pure, Result.andThen_ok, List.map_toArray, List.map_cons, List.map_nil, hd, hs, hrun]
 exact h _ (setRow_heap w g _ _ t _ hg) ⟨rfl, rfl, rfl, by simp, fun k _ hk => setRow_other w g k _ hk⟩
theorem ins_post {w w1 : World} {o : Obj} {e : TypeId} {size : Nat} {v v' : Value} {n : Nat} {zs : List Value} (h1 : w1.ownsRow 0 e size v' n zs) (h2 : Keeps (fun k => v.ownBlock = some k) (w.alloc o) w1) (h3 : v'.ownBlock = v.ownBlock ∨ ∃ g, v'.ownBlock = some g ∧ w.heap.size + 1 ≤ g) :
  w1.ownsRow 0 e size v' n zs ∧ Keeps (fun k => v.ownBlock = some k) w w1 ∧ (v'.ownBlock = v.ownBlock ∨ ∃ g, v'.ownBlock = some g ∧ w.heap.size ≤ g) :=
 ⟨h1, (Keeps.alloc w o).trans (h2.mono fun _ _ h => .inl h), h3.imp id fun ⟨g, hg, hh⟩ => ⟨g, hg, by omega⟩⟩
theorem wpList_append_growz {P : Program} {w : World} {ops : Array Oper} {rest : List Oper} {o : Oper} {a : Act} {Q : Exit → Act → World → Prop} (hgd : o.guard = none) (s x : Operand) (t tn : TypeId)
  (ho : o.op = .call { callee := .builtin .append, args := #[s, x], argTypes := #[t, tn] }) (e : TypeId) (i : TypeInfo) (z : Value) (size bytes : Nat) (kn : IntKind) (ht : P.underlying t = some (.slice e)) (htn : P.underlying tn = some (.int kn)) (hi : P.info? e = some i) (hz : i.zero = some z)
  (hsize : i.size = size) (hby : i.bytes = bytes) (hzs : z.cells.size = size) (hs0 : 0 < size)
  (b : Addr) (sLen sCap : Nat) (olds : List Value) (n : Nat) (hs : a.eval s = .slice (some b) sLen sCap) (hx : a.eval x = .int kn n) (hlo : olds.length = sLen * size) (holds : ∀ j v, olds[j]? = some v → w.cell? (b.add j) = some v)
  (h0 : 0 < n) (hg : sCap < sLen + n) (h63 : sLen + n ≤ 1000000000002) (hbb : bytes ≤ 100)
  (h : ∀ G Z w', sLen + n ≤ G → G ≤ maxLen → Z.length = (G - sLen) * size → w'.heap[w.heap.size]? = some (.cells (olds ++ Z).toArray e (0, 0)) → Keeps (fun _ => False) w w' → wpList P ops Q rest (a.put o.dst (.slice (some ⟨w.heap.size, 0, none⟩) (sLen + n) G)) w') :
  wpList P ops Q (o :: rest) a w := by
 subst hsize
 subst hby
 have hb1 : (sLen + n) * i.bytes ≤ 140737488355328 := Nat.le_trans (Nat.mul_le_mul h63 hbb) (by omega)
 have hb2 : n * i.bytes ≤ 281474976710656 := Nat.le_trans (Nat.mul_le_mul_right _ (Nat.le_add_left n sLen)) (by omega)
 have hr := run_append_grow_zeros (P := P) w t tn o.type e i z kn ht htn hi hz b sLen sCap olds hlo holds n h0 hs0 hg (by omega) hb2 (growslice_fits hg hb1)
 refine Lib.wpList_append_run w hgd s x t tn ho _ _ hs hx _ _ hr ?_
 have hge := grownCap_ge w (sLen + n) sCap e
 have hcm := grownCap_le_maxLen w (sLen + n) sCap e (by unfold maxLen; omega)
 refine h _ ((Builtin.zeroCells z.cells n ++ Builtin.zeroCells z.cells (grownCap w (sLen + n) sCap e - (sLen + n))).toList) _ hge hcm ?_ ?_ ((Keeps.drew w).trans (Keeps.alloc _ _))
 ·simp only [Array.toList_append, List.length_append, Array.length_toList, size_zeroCells, hzs, ← Nat.add_mul]
  congr 1
  omega
 ·have := heap_alloc_new w.drew (.cells (olds.toArray ++ Builtin.zeroCells z.cells n ++ Builtin.zeroCells z.cells (grownCap w (sLen + n) sCap e - (sLen + n))) e)
  rw [show w.drew.heap.size = w.heap.size from rfl] at this
  rw [this]
  congr 2
  apply Array.ext'
  simp
end Go.Proofs.Ythcmpcekmkioaaa
namespace Go.Proofs.Ythcmpcekmkioaaa
open Go.RowKit
def bxS (E : Nat) (ki da tr am re : Int) (w : World) : Prop :=
 w.cell? ⟨E, 0, none⟩ = some (.int .i64 ki) ∧ w.cell? ⟨E, 1, none⟩ = some (.int .i64 da) ∧ w.cell? ⟨E, 2, none⟩ = some (.int .i64 tr) ∧ w.cell? ⟨E, 3, none⟩ = some (.int .i64 am) ∧ w.cell? ⟨E, 4, none⟩ = some (.int .i64 re)
theorem bxS.of {E : Nat} {ki da tr am re : Int} {w : World} (he : w.heap[E]? = some (.cells #[.int .i64 ki, .int .i64 da, .int .i64 tr, .int .i64 am, .int .i64 re] 54 (0, 0))) : bxS E ki da tr am re w :=
 ⟨cell_of_cells he 0, cell_of_cells he 1, cell_of_cells he 2, cell_of_cells he 3, cell_of_cells he 4⟩
end Go.Proofs.Ythcmpcekmkioaaa
namespace Go.Proofs.Ythcmpcekmkioaaa
open Go.RowKit
def MakesEv (w : World) (M : List Ev) (e : Ending) (w' : World) : Prop := ∃ v', e = .returned v' ∧ w'.ownsRow 0 54 5 v' M.length (M.flatMap Ev.cells) ∧ Fresh w w' v'
theorem Fresh.up {w w' : World} {o : Obj} {v : Value} (h : Fresh (w.alloc o) w' v) : Fresh w w' v := ⟨(Keeps.alloc w o).nt h.1, fun g hg => by have := h.2 g hg; simp at this; omega⟩
def bxS1 (E : Nat) (ki da tr am re : Int) (g o : Nat) (x : Int) (w : World) : Prop := w.cell? ⟨g, o, none⟩ = some (.int .i64 x) ∧ w.cell? ⟨E, 1, none⟩ = some (.int .i64 da)
set_option maxRecDepth 100000 in
set_option maxHeartbeats 1600000 in
theorem rdatPut_nil (e : Ev) (w : World) : Calls Try.prog 27 #[.slice none 0 0, e.agg] w (MakesEv w (putL [] e)) := by
 obtain ⟨i0, hi, hi0, hi1, hi2⟩ := info_parts info_tEvent
 obtain ⟨ki, da, tr, am, re⟩ := e
 obtain ⟨L, hL⟩ : ∃ L : List Ev, L = [] := ⟨_, rfl⟩
 have hn : L.length = 0 := by rw [hL]; rfl
 have hr : w.ownsRow 0 54 5 (.slice none 0 0) 0 (L.flatMap Ev.cells) := by rw [hL]; exact World.ownsRow_nil _ _ _ _
 have hp : placeOf da L 0 = 0 := by rw [hL]; rfl
 rw [← hL]
 have hbS : ∀ W, Keeps (fun _ => False) (w.alloc (.cells #[.int .i64 ki, .int .i64 da, .int .i64 tr, .int .i64 am, .int .i64 re] 54)) W → bxS w.heap.size ki da tr am re W := fun W hW => bxS.of (box_old (heap_alloc_new w _) hW (by simp))
 have hk : Keeps (fun _ => False) (w.alloc (.cells #[.int .i64 ki, .int .i64 da, .int .i64 tr, .int .i64 am, .int .i64 re] 54)) (w.alloc (.cells #[.int .i64 ki, .int .i64 da, .int .i64 tr, .int .i64 am, .int .i64 re] 54)) := Keeps.refl _ _
 simp only [Ev.agg]
 obtain ⟨Hi, Hi0, Hi1, Hi2, HbS, Hn, Hr, Hp, Hk⟩ := hid9 hi hi0 hi1 hi2 hbS hn hr hp hk; clear hk hp hr hn hbS hi2 hi1 hi0 hi; have HL := Lib.hid hL; clear hL
 go_enter Try.func27, Try.ntmps27
 go_wp2
 go_loopw [5] (fun x wx => x = .int .i64 0 ∧ Keeps (fun _ => False) (w.alloc (.cells #[.int .i64 ki, .int .i64 da, .int .i64 tr, .int .i64 am, .int .i64 re] 54)) wx) (fun x _ => (intOf x).toNat)
 case atStart => exact ⟨rfl, Keeps.refl _ _⟩
 case round =>
  obtain ⟨rfl, hk⟩ := hrel
  clear Hk
  have Hk := Lib.hid hk; clear hk
  go_wp2_with fail
  refine wp_region_mixw (bxS w.heap.size ki da tr am re) (.take 0 (.take 1 (.take 2 (.take 3 (.take 4 (.take 5 (.take 6 (.take 7 (.take 8 (.take 9 (.take 10 (.take 11 (.take 12 .done))))))))))))) (by kernel_rfl) (by kernel_rfl) ?_ ?_
  ·exact HbS.out _ (Hk.out.nt (Keeps.drew _))
  intro w1 hs1 hk1
  repeat (first
   | (refine mix_skip rfl (by rfl) ?_; try simp only [Act.put, List.setIfInBounds_toArray, List.set_cons_zero, List.set_cons_succ])
   | (refine mix_skipm rfl (by rfl) ?_; try simp only [Act.put, List.setIfInBounds_toArray, List.set_cons_zero, List.set_cons_succ])
   | (refine mix_take (v := ?_) rfl (by rfl) ?_ ?_; rotate_left; (· intro w' hSw; unfold bxS at hSw; go_simp; (try with_reducible rfl)); rotate_right; try simp only [Act.put, List.setIfInBounds_toArray, List.set_cons_zero, List.set_cons_succ]))
  refine mix_done ?_
  have Hk := Lib.hid (Hk.out.nt hk1)
  clear hs1 hk1
  go_wp2_with fail
  have hkn : 0 ≤ 0 := by omega
  have hlm : 0 + 1 + (0) ≤ 1000001 := by omega
  have hkI : (0 : Int) ≤ (0 : Int) := by omega
  have hkI0 : (0 : Int) ≤ (0 : Int) := by omega
  have hkI2 : (0 : Int) ≤ (0 : Int) := by omega
  have hend : ∀ v4 w4, World.ownsRow w4 0 54 5 v4 (0 + 1 + (0)) ((L.take 0).flatMap Ev.cells ++ [.int .i64 ki, .int .i64 da, .int .i64 tr, .int .i64 am, .int .i64 re] ++ (L.drop 0).flatMap Ev.cells) → Fresh (w.alloc (.cells #[.int .i64 ki, .int .i64 da, .int .i64 tr, .int .i64 am, .int .i64 re] 54)) w4 v4 → MakesEv w (putL L ⟨ki, da, tr, am, re⟩) (.returned v4) w4 := by
   intro v4 w4 ho hf
   have hp' := Hp.out
   refine ⟨v4, rfl, ?_, hf.up⟩
   rw [putL_length, Hn.out]
   have hL := Hn.out
   unfold putL
   simp only [hL]
   rw [hp', List.flatMap_append, List.flatMap_append]
   have hm : 0 + 1 + (0) = 0 + 1 := by omega
   rw [hm] at ho
   exact ho
  have hsuf : Reads (w.alloc (.cells #[.int .i64 ki, .int .i64 da, .int .i64 tr, .int .i64 am, .int .i64 re] 54)) 5 (.slice none 0 0) (0) ((L.drop 0).flatMap Ev.cells) := by have h0 : L = [] := List.eq_nil_of_length_eq_zero Hn.out; rw [h0]; exact Reads.nil _ _
  obtain ⟨Hend, Hsuf, Hkn⟩ := hid3 hend hsuf hkn; clear hkn hsuf hend
  refine wp_region_mixw (bxS w.heap.size ki da tr am re) (.take 0 (.take 1 (.take 2 (.take 4 (.take 7 (.take 8 (.take 9 (.fork 3 (.move 5 (.move 6 (.move 10 (.take 11 .done)))) 5 (.move 3 (.move 6 (.move 10 (.take 11 .done)))))))))))) (by kernel_rfl) (by kernel_rfl) ?_ ?_
  ·exact (HbS.out _ (Hk.out.nt (Keeps.drew _)))
  intro w1 hs1 hk1
  have hkw : Keeps (fun _ => False) (w.alloc (.cells #[.int .i64 ki, .int .i64 da, .int .i64 tr, .int .i64 am, .int .i64 re] 54)) w1 := Hk.out.nt hk1
  have hread := (Reads.of_owns Hr.out).keeps ((Keeps.alloc w _).nt hkw) (by simp)
  obtain ⟨Hkw, Hread⟩ := hid2 hkw hread; clear hread hkw
  clear hs1 hk1
  repeat (first
   | (refine mix_skip rfl (by rfl) ?_; try simp only [Act.put, List.setIfInBounds_toArray, List.set_cons_zero, List.set_cons_succ])
   | (refine mix_skipm rfl (by rfl) ?_; try simp only [Act.put, List.setIfInBounds_toArray, List.set_cons_zero, List.set_cons_succ])
   | (refine mix_take (v := ?_) rfl (by rfl) ?_ ?_; rotate_left; (· intro w' hSw; unfold bxS at hSw; go_simp; (try with_reducible rfl)); rotate_right; try simp only [Act.put, List.setIfInBounds_toArray, List.set_cons_zero, List.set_cons_succ]))
  refine mix_fork ?_ ?_ (HbS.out _ Hkw.out)
  ·skip
   refine mix_move rfl (fun K hK => ?_)
   refine step_append_row rfl (.const (.slice none 0 0)) (.tmp 25) 25 rfl 0 54 i0 _ 5 40 Try.underlying25 Hi.out Hi0.out Hi1.out Hi2.out rfl (by decide) (.slice none 0 0) 0 [] rfl (World.ownsRow_nil _ _ _ _) _ 0 _ rfl (Hread.out.preL Ev.cells_length 0 Hkn.out) (Ev.one _) (by unfold maxLen; omega) (by omega) (Nat.zero_le _) ?_
   intro v2 w2 hown2 hk2 hf2
   have hfr2 := ((Fresh.nil _).keep Hkw.out).app hk2 hf2
   have hbs2 := HbS.out _ hfr2.1
   obtain ⟨ad2, c2, rfl, _, _⟩ := ownsRow_shape hown2
   simp only [Nat.zero_add, List.nil_append] at hown2 hfr2 ⊢
   refine hK.out _ _ (by exact hbs2) ?_
   clear hK K
   try simp only [Act.put, List.setIfInBounds_toArray, List.set_cons_zero, List.set_cons_succ]
   obtain ⟨Hown2, Hfr2, Hbs2⟩ := hid3 hown2 hfr2 hbs2; clear hbs2 hfr2 hown2
   clear hf2 hk2
   repeat (first
    | (refine mix_skip rfl (by rfl) ?_; try simp only [Act.put, List.setIfInBounds_toArray, List.set_cons_zero, List.set_cons_succ])
    | (refine mix_skipm rfl (by rfl) ?_; try simp only [Act.put, List.setIfInBounds_toArray, List.set_cons_zero, List.set_cons_succ])
    | (refine mix_take (v := ?_) rfl (by rfl) ?_ ?_; rotate_left; (· intro w' hSw; unfold bxS at hSw; go_simp; (try with_reducible rfl)); rotate_right; try simp only [Act.put, List.setIfInBounds_toArray, List.set_cons_zero, List.set_cons_succ]))
   refine mix_move rfl (fun K hK => ?_)
   go_simp
   refine hK.out _ _ (by exact HbS.out _ (Hfr2.out.1.nt (Keeps.alloc _ _))) ?_
   clear hK K
   try simp only [Act.put, List.setIfInBounds_toArray, List.set_cons_zero, List.set_cons_succ]
   refine mix_move rfl (fun K hK => ?_)
   refine step_append_row rfl (.tmp 26) (.tmp 28) 25 rfl 0 54 i0 _ 5 40 Try.underlying25 Hi.out Hi0.out Hi1.out Hi2.out rfl (by decide) _ 0 _ rfl (Hown2.out.alloc _) _ 1 _ rfl (Reads.litAt _ _ _ 5 1 _ (by first | rfl | simp) rfl) (by simp [Value.oneCell']) (by unfold maxLen; omega) (by omega) (Nat.zero_le _) ?_
   intro v3 w3 hown3 hk3 hf3
   have hfr3 := (Hfr2.out.keep (Keeps.alloc _ _)).app hk3 hf3
   have hbs3 := HbS.out _ hfr3.1
   obtain ⟨ad3, c3, rfl, _, _⟩ := ownsRow_shape hown3
   refine hK.out _ _ (by exact hbs3) ?_
   clear hK K
   try simp only [Act.put, List.setIfInBounds_toArray, List.set_cons_zero, List.set_cons_succ]
   obtain ⟨Hown3, Hfr3, Hbs3⟩ := hid3 hown3 hfr3 hbs3; clear hbs3 hfr3 hown3
   clear hf3 hk3
   repeat (first
    | (refine mix_skip rfl (by rfl) ?_; try simp only [Act.put, List.setIfInBounds_toArray, List.set_cons_zero, List.set_cons_succ])
    | (refine mix_skipm rfl (by rfl) ?_; try simp only [Act.put, List.setIfInBounds_toArray, List.set_cons_zero, List.set_cons_succ])
    | (refine mix_take (v := ?_) rfl (by rfl) ?_ ?_; rotate_left; (· intro w' hSw; unfold bxS at hSw; go_simp; (try with_reducible rfl)); rotate_right; try simp only [Act.put, List.setIfInBounds_toArray, List.set_cons_zero, List.set_cons_succ]))
   refine mix_move rfl (fun K hK => ?_)
   refine step_append_row rfl (.tmp 29) (.tmp 32) 25 rfl 0 54 i0 _ 5 40 Try.underlying25 Hi.out Hi0.out Hi1.out Hi2.out rfl (by decide) _ (0 + 1) _ rfl Hown3.out (.slice none 0 0) (0) _ rfl (Hsuf.out.keeps Hfr3.out.1 (by simp)) (Ev.one _) (by unfold maxLen; omega) (by omega) (Nat.zero_le _) ?_
   intro v4 w4 hown4 hk4 hf4
   have hfr4 := Hfr3.out.app hk4 hf4
   have hpost := Hend.out v4 w4 hown4 hfr4
   obtain ⟨ad4, c4, rfl, _, _⟩ := ownsRow_shape hown4
   refine hK.out _ _ (by exact HbS.out _ hfr4.1) ?_
   clear hK K
   try simp only [Act.put, List.setIfInBounds_toArray, List.set_cons_zero, List.set_cons_succ]
   have Hpost := Lib.hid hpost; clear hpost
   clear hown4 hk4 hf4 hfr4
   repeat (first
    | (refine mix_skip rfl (by rfl) ?_; try simp only [Act.put, List.setIfInBounds_toArray, List.set_cons_zero, List.set_cons_succ])
    | (refine mix_skipm rfl (by rfl) ?_; try simp only [Act.put, List.setIfInBounds_toArray, List.set_cons_zero, List.set_cons_succ])
    | (refine mix_take (v := ?_) rfl (by rfl) ?_ ?_; rotate_left; (· intro w' hSw; unfold bxS at hSw; go_simp; (try with_reducible rfl)); rotate_right; try simp only [Act.put, List.setIfInBounds_toArray, List.set_cons_zero, List.set_cons_succ]))
   refine mix_done ?_
   go_wp2_with fail
   go_ret
   exact Hpost.out
  ·skip
   refine mix_move rfl (fun K hK => ?_)
   go_simp
   refine hK.out _ _ (by exact HbS.out _ (Hkw.out.nt (Keeps.alloc _ _))) ?_
   clear hK K
   try simp only [Act.put, List.setIfInBounds_toArray, List.set_cons_zero, List.set_cons_succ]
   repeat (first
    | (refine mix_skip rfl (by rfl) ?_; try simp only [Act.put, List.setIfInBounds_toArray, List.set_cons_zero, List.set_cons_succ])
    | (refine mix_skipm rfl (by rfl) ?_; try simp only [Act.put, List.setIfInBounds_toArray, List.set_cons_zero, List.set_cons_succ])
    | (refine mix_take (v := ?_) rfl (by rfl) ?_ ?_; rotate_left; (· intro w' hSw; unfold bxS at hSw; go_simp; (try with_reducible rfl)); rotate_right; try simp only [Act.put, List.setIfInBounds_toArray, List.set_cons_zero, List.set_cons_succ]))
   refine mix_move rfl (fun K hK => ?_)
   refine step_append_row rfl (.const (.slice none 0 0)) (.tmp 25) 25 rfl 0 54 i0 _ 5 40 Try.underlying25 Hi.out Hi0.out Hi1.out Hi2.out rfl (by decide) (.slice none 0 0) 0 [] rfl (World.ownsRow_nil _ _ _ _) _ 0 _ rfl ((Hread.out.preL Ev.cells_length 0 Hkn.out).alloc _) (Ev.one _) (by unfold maxLen; omega) (by omega) (Nat.zero_le _) ?_
   intro v2 w2 hown2 hk2 hf2
   have hfr2 := ((Fresh.nil _).keep (Hkw.out.nt (Keeps.alloc _ _))).app hk2 hf2
   have hbs2 := HbS.out _ hfr2.1
   obtain ⟨ad2, c2, rfl, _, _⟩ := ownsRow_shape hown2
   have hbx2 := Reads.blk (size := 5) (n := 1) (box_old (heap_alloc_new w1 _) hk2 (by simp [Value.ownBlock])) rfl
   simp only [Nat.zero_add, List.nil_append] at hown2 hfr2 hbx2 ⊢
   refine hK.out _ _ (by exact hbs2) ?_
   clear hK K
   try simp only [Act.put, List.setIfInBounds_toArray, List.set_cons_zero, List.set_cons_succ]
   obtain ⟨Hown2, Hfr2, Hbs2, Hbx2⟩ := hid4 hown2 hfr2 hbs2 hbx2; clear hbx2 hbs2 hfr2 hown2
   clear hf2 hk2
   repeat (first
    | (refine mix_skip rfl (by rfl) ?_; try simp only [Act.put, List.setIfInBounds_toArray, List.set_cons_zero, List.set_cons_succ])
    | (refine mix_skipm rfl (by rfl) ?_; try simp only [Act.put, List.setIfInBounds_toArray, List.set_cons_zero, List.set_cons_succ])
    | (refine mix_take (v := ?_) rfl (by rfl) ?_ ?_; rotate_left; (· intro w' hSw; unfold bxS at hSw; go_simp; (try with_reducible rfl)); rotate_right; try simp only [Act.put, List.setIfInBounds_toArray, List.set_cons_zero, List.set_cons_succ]))
   refine mix_move rfl (fun K hK => ?_)
   refine step_append_row rfl (.tmp 26) (.tmp 28) 25 rfl 0 54 i0 _ 5 40 Try.underlying25 Hi.out Hi0.out Hi1.out Hi2.out rfl (by decide) _ 0 _ rfl Hown2.out _ 1 _ rfl Hbx2.out (by simp [Value.oneCell']) (by unfold maxLen; omega) (by omega) (Nat.zero_le _) ?_
   intro v3 w3 hown3 hk3 hf3
   have hfr3 := Hfr2.out.app hk3 hf3
   have hbs3 := HbS.out _ hfr3.1
   obtain ⟨ad3, c3, rfl, _, _⟩ := ownsRow_shape hown3
   refine hK.out _ _ (by exact hbs3) ?_
   clear hK K
   try simp only [Act.put, List.setIfInBounds_toArray, List.set_cons_zero, List.set_cons_succ]
   obtain ⟨Hown3, Hfr3, Hbs3⟩ := hid3 hown3 hfr3 hbs3; clear hbs3 hfr3 hown3
   clear hf3 hk3
   repeat (first
    | (refine mix_skip rfl (by rfl) ?_; try simp only [Act.put, List.setIfInBounds_toArray, List.set_cons_zero, List.set_cons_succ])
    | (refine mix_skipm rfl (by rfl) ?_; try simp only [Act.put, List.setIfInBounds_toArray, List.set_cons_zero, List.set_cons_succ])
    | (refine mix_take (v := ?_) rfl (by rfl) ?_ ?_; rotate_left; (· intro w' hSw; unfold bxS at hSw; go_simp; (try with_reducible rfl)); rotate_right; try simp only [Act.put, List.setIfInBounds_toArray, List.set_cons_zero, List.set_cons_succ]))
   refine mix_move rfl (fun K hK => ?_)
   refine step_append_row rfl (.tmp 29) (.tmp 32) 25 rfl 0 54 i0 _ 5 40 Try.underlying25 Hi.out Hi0.out Hi1.out Hi2.out rfl (by decide) _ (0 + 1) _ rfl Hown3.out (.slice none 0 0) (0) _ rfl (Hsuf.out.keeps Hfr3.out.1 (by simp)) (Ev.one _) (by unfold maxLen; omega) (by omega) (Nat.zero_le _) ?_
   intro v4 w4 hown4 hk4 hf4
   have hfr4 := Hfr3.out.app hk4 hf4
   have hpost := Hend.out v4 w4 hown4 hfr4
   obtain ⟨ad4, c4, rfl, _, _⟩ := ownsRow_shape hown4
   refine hK.out _ _ (by exact HbS.out _ hfr4.1) ?_
   clear hK K
   try simp only [Act.put, List.setIfInBounds_toArray, List.set_cons_zero, List.set_cons_succ]
   have Hpost := Lib.hid hpost; clear hpost
   clear hown4 hk4 hf4 hfr4
   repeat (first
    | (refine mix_skip rfl (by rfl) ?_; try simp only [Act.put, List.setIfInBounds_toArray, List.set_cons_zero, List.set_cons_succ])
    | (refine mix_skipm rfl (by rfl) ?_; try simp only [Act.put, List.setIfInBounds_toArray, List.set_cons_zero, List.set_cons_succ])
    | (refine mix_take (v := ?_) rfl (by rfl) ?_ ?_; rotate_left; (· intro w' hSw; unfold bxS at hSw; go_simp; (try with_reducible rfl)); rotate_right; try simp only [Act.put, List.setIfInBounds_toArray, List.set_cons_zero, List.set_cons_succ]))
   refine mix_done ?_
   go_wp2_with fail
   go_ret
   exact Hpost.out
set_option maxRecDepth 100000 in
set_option maxHeartbeats 1600000 in
theorem rdatPut_row (g cap : Nat) (e : Ev) (L : List Ev) (w : World) (hr : w.ownsRow 0 54 5 (.slice (some ⟨g, 0, none⟩) L.length cap) L.length (L.flatMap Ev.cells)) (hl : L.length ≤ 1000000) : Calls Try.prog 27 #[.slice (some ⟨g, 0, none⟩) L.length cap, e.agg] w (MakesEv w (putL L e)) := by
 obtain ⟨i0, hi, hi0, hi1, hi2⟩ := info_parts info_tEvent
 obtain ⟨ki, da, tr, am, re⟩ := e
 have hbS : ∀ W, Keeps (fun _ => False) (w.alloc (.cells #[.int .i64 ki, .int .i64 da, .int .i64 tr, .int .i64 am, .int .i64 re] 54)) W → bxS w.heap.size ki da tr am re W := fun W hW => bxS.of (box_old (heap_alloc_new w _) hW (by simp))
 obtain ⟨n, hn⟩ : ∃ n, L.length = n := ⟨_, rfl⟩
 rw [hn] at hr hl ⊢
 have hnc : n ≤ cap := by obtain ⟨ad, c, he, h1, _⟩ := ownsRow_shape hr; cases he; exact h1
 simp only [Ev.agg]
 obtain ⟨Hi, Hi0, Hi1, Hi2, HbS, Hn, Hr⟩ := hid7 hi hi0 hi1 hi2 hbS hn hr; clear hr hn hbS hi2 hi1 hi0 hi
 go_enter Try.func27, Try.ntmps27
 go_wp2
 go_loopw [5] (fun x wx => ∃ k : Nat, x = .int .i64 (k : Nat) ∧ k ≤ n ∧ placeOf da L n = placeOf da L k ∧ Keeps (fun _ => False) (w.alloc (.cells #[.int .i64 ki, .int .i64 da, .int .i64 tr, .int .i64 am, .int .i64 re] 54)) wx) (fun x _ => (intOf x).toNat)
 case atStart => exact ⟨n, rfl, Nat.le_refl _, rfl, Keeps.refl _ _⟩
 case round =>
  obtain ⟨k, rfl, hkn, hp, hk⟩ := hrel
  rcases k with _ | k
  ·have h0 : placeOf da L 0 = 0 := by cases L <;> rfl
   rw [h0] at hp
   obtain ⟨Hp, Hk, H0⟩ := hid3 hp hk h0; clear h0 hk hp
   go_wp2_with fail
   refine wp_region_mixw (bxS w.heap.size ki da tr am re) (.take 0 (.take 1 (.take 2 (.take 3 (.take 4 (.take 5 (.take 6 (.take 7 (.take 8 (.take 9 (.take 10 (.take 11 (.take 12 .done))))))))))))) (by kernel_rfl) (by kernel_rfl) ?_ ?_
   ·exact HbS.out _ (Hk.out.nt (Keeps.drew _))
   intro w1 hs1 hk1
   repeat (first
    | (refine mix_skip rfl (by rfl) ?_; try simp only [Act.put, List.setIfInBounds_toArray, List.set_cons_zero, List.set_cons_succ])
    | (refine mix_skipm rfl (by rfl) ?_; try simp only [Act.put, List.setIfInBounds_toArray, List.set_cons_zero, List.set_cons_succ])
    | (refine mix_take (v := ?_) rfl (by rfl) ?_ ?_; rotate_left; (· intro w' hSw; unfold bxS at hSw; go_simp; (try with_reducible rfl)); rotate_right; try simp only [Act.put, List.setIfInBounds_toArray, List.set_cons_zero, List.set_cons_succ]))
   refine mix_done ?_
   have Hk := Lib.hid (Hk.out.nt hk1)
   clear hs1 hk1
   go_wp2_with fail
   by_cases hck : cap = 0
   ·obtain rfl : n = 0 := by omega
    subst hck
    have hkn : 0 ≤ 0 := by omega
    have hlm : 0 + 1 + (0) ≤ 1000001 := by omega
    have hkI : (0 : Int) ≤ (0 : Int) := by omega
    have hkI0 : (0 : Int) ≤ (0 : Int) := by omega
    have hkI2 : (0 : Int) ≤ (0 : Int) := by omega
    have hend : ∀ v4 w4, World.ownsRow w4 0 54 5 v4 (0 + 1 + (0)) ((L.take 0).flatMap Ev.cells ++ [.int .i64 ki, .int .i64 da, .int .i64 tr, .int .i64 am, .int .i64 re] ++ (L.drop 0).flatMap Ev.cells) → Fresh (w.alloc (.cells #[.int .i64 ki, .int .i64 da, .int .i64 tr, .int .i64 am, .int .i64 re] 54)) w4 v4 → MakesEv w (putL L ⟨ki, da, tr, am, re⟩) (.returned v4) w4 := by
     intro v4 w4 ho hf
     have hp' := Hp.out
     refine ⟨v4, rfl, ?_, hf.up⟩
     rw [putL_length, Hn.out]
     have hL := Hn.out
     unfold putL
     simp only [hL]
     rw [hp', List.flatMap_append, List.flatMap_append]
     have hm : 0 + 1 + (0) = 0 + 1 := by omega
     rw [hm] at ho
     exact ho
    have hsuf : Reads (w.alloc (.cells #[.int .i64 ki, .int .i64 da, .int .i64 tr, .int .i64 am, .int .i64 re] 54)) 5 (.slice (some ⟨g, 0, none⟩) 0 0) (0) ((L.drop 0).flatMap Ev.cells) := by rw [List.drop_eq_nil_of_le (by rw [Hn.out]; exact Nat.le_refl _)]; exact Reads.none_of (by simp)
    obtain ⟨Hend, Hsuf, Hkn⟩ := hid3 hend hsuf hkn; clear hkn hsuf hend
    refine wp_region_mixw (bxS w.heap.size ki da tr am re) (.take 0 (.take 1 (.take 2 (.take 4 (.take 7 (.take 8 (.take 9 (.fork 3 (.move 5 (.move 6 (.move 10 (.take 11 .done)))) 5 (.move 3 (.move 6 (.move 10 (.take 11 .done)))))))))))) (by kernel_rfl) (by kernel_rfl) ?_ ?_
    ·exact (HbS.out _ (Hk.out.nt (Keeps.drew _)))
    intro w1 hs1 hk1
    have hkw : Keeps (fun _ => False) (w.alloc (.cells #[.int .i64 ki, .int .i64 da, .int .i64 tr, .int .i64 am, .int .i64 re] 54)) w1 := Hk.out.nt hk1
    have hread := (Reads.of_owns Hr.out).keeps ((Keeps.alloc w _).nt hkw) (by simp)
    obtain ⟨Hkw, Hread⟩ := hid2 hkw hread; clear hread hkw
    clear hs1 hk1
    repeat (first
     | (refine mix_skip rfl (by rfl) ?_; try simp only [Act.put, List.setIfInBounds_toArray, List.set_cons_zero, List.set_cons_succ])
     | (refine mix_skipm rfl (by rfl) ?_; try simp only [Act.put, List.setIfInBounds_toArray, List.set_cons_zero, List.set_cons_succ])
     | (refine mix_take (v := ?_) rfl (by rfl) ?_ ?_; rotate_left; (· intro w' hSw; unfold bxS at hSw; go_simp; (try with_reducible rfl)); rotate_right; try simp only [Act.put, List.setIfInBounds_toArray, List.set_cons_zero, List.set_cons_succ]))
    refine mix_fork ?_ ?_ (HbS.out _ Hkw.out)
    ·skip
     refine mix_move rfl (fun K hK => ?_)
     refine step_append_row rfl (.const (.slice none 0 0)) (.tmp 25) 25 rfl 0 54 i0 _ 5 40 Try.underlying25 Hi.out Hi0.out Hi1.out Hi2.out rfl (by decide) (.slice none 0 0) 0 [] rfl (World.ownsRow_nil _ _ _ _) _ 0 _ rfl (Hread.out.preL Ev.cells_length 0 Hkn.out) (Ev.one _) (by unfold maxLen; omega) (by omega) (Nat.zero_le _) ?_
     intro v2 w2 hown2 hk2 hf2
     have hfr2 := ((Fresh.nil _).keep Hkw.out).app hk2 hf2
     have hbs2 := HbS.out _ hfr2.1
     obtain ⟨ad2, c2, rfl, _, _⟩ := ownsRow_shape hown2
     simp only [Nat.zero_add, List.nil_append] at hown2 hfr2 ⊢
     refine hK.out _ _ (by exact hbs2) ?_
     clear hK K
     try simp only [Act.put, List.setIfInBounds_toArray, List.set_cons_zero, List.set_cons_succ]
     obtain ⟨Hown2, Hfr2, Hbs2⟩ := hid3 hown2 hfr2 hbs2; clear hbs2 hfr2 hown2
     clear hf2 hk2
     repeat (first
      | (refine mix_skip rfl (by rfl) ?_; try simp only [Act.put, List.setIfInBounds_toArray, List.set_cons_zero, List.set_cons_succ])
      | (refine mix_skipm rfl (by rfl) ?_; try simp only [Act.put, List.setIfInBounds_toArray, List.set_cons_zero, List.set_cons_succ])
      | (refine mix_take (v := ?_) rfl (by rfl) ?_ ?_; rotate_left; (· intro w' hSw; unfold bxS at hSw; go_simp; (try with_reducible rfl)); rotate_right; try simp only [Act.put, List.setIfInBounds_toArray, List.set_cons_zero, List.set_cons_succ]))
     refine mix_move rfl (fun K hK => ?_)
     go_simp
     refine hK.out _ _ (by exact HbS.out _ (Hfr2.out.1.nt (Keeps.alloc _ _))) ?_
     clear hK K
     try simp only [Act.put, List.setIfInBounds_toArray, List.set_cons_zero, List.set_cons_succ]
     refine mix_move rfl (fun K hK => ?_)
     refine step_append_row rfl (.tmp 26) (.tmp 28) 25 rfl 0 54 i0 _ 5 40 Try.underlying25 Hi.out Hi0.out Hi1.out Hi2.out rfl (by decide) _ 0 _ rfl (Hown2.out.alloc _) _ 1 _ rfl (Reads.litAt _ _ _ 5 1 _ (by first | rfl | simp) rfl) (by simp [Value.oneCell']) (by unfold maxLen; omega) (by omega) (Nat.zero_le _) ?_
     intro v3 w3 hown3 hk3 hf3
     have hfr3 := (Hfr2.out.keep (Keeps.alloc _ _)).app hk3 hf3
     have hbs3 := HbS.out _ hfr3.1
     obtain ⟨ad3, c3, rfl, _, _⟩ := ownsRow_shape hown3
     refine hK.out _ _ (by exact hbs3) ?_
     clear hK K
     try simp only [Act.put, List.setIfInBounds_toArray, List.set_cons_zero, List.set_cons_succ]
     obtain ⟨Hown3, Hfr3, Hbs3⟩ := hid3 hown3 hfr3 hbs3; clear hbs3 hfr3 hown3
     clear hf3 hk3
     repeat (first
      | (refine mix_skip rfl (by rfl) ?_; try simp only [Act.put, List.setIfInBounds_toArray, List.set_cons_zero, List.set_cons_succ])
      | (refine mix_skipm rfl (by rfl) ?_; try simp only [Act.put, List.setIfInBounds_toArray, List.set_cons_zero, List.set_cons_succ])
      | (refine mix_take (v := ?_) rfl (by rfl) ?_ ?_; rotate_left; (· intro w' hSw; unfold bxS at hSw; go_simp; (try with_reducible rfl)); rotate_right; try simp only [Act.put, List.setIfInBounds_toArray, List.set_cons_zero, List.set_cons_succ]))
     refine mix_move rfl (fun K hK => ?_)
     refine step_append_row rfl (.tmp 29) (.tmp 32) 25 rfl 0 54 i0 _ 5 40 Try.underlying25 Hi.out Hi0.out Hi1.out Hi2.out rfl (by decide) _ (0 + 1) _ rfl Hown3.out (.slice (some ⟨g, 0, none⟩) 0 0) (0) _ rfl (Hsuf.out.keeps Hfr3.out.1 (by simp)) (Ev.one _) (by unfold maxLen; omega) (by omega) (Nat.zero_le _) ?_
     intro v4 w4 hown4 hk4 hf4
     have hfr4 := Hfr3.out.app hk4 hf4
     have hpost := Hend.out v4 w4 hown4 hfr4
     obtain ⟨ad4, c4, rfl, _, _⟩ := ownsRow_shape hown4
     refine hK.out _ _ (by exact HbS.out _ hfr4.1) ?_
     clear hK K
     try simp only [Act.put, List.setIfInBounds_toArray, List.set_cons_zero, List.set_cons_succ]
     have Hpost := Lib.hid hpost; clear hpost
     clear hown4 hk4 hf4 hfr4
     repeat (first
      | (refine mix_skip rfl (by rfl) ?_; try simp only [Act.put, List.setIfInBounds_toArray, List.set_cons_zero, List.set_cons_succ])
      | (refine mix_skipm rfl (by rfl) ?_; try simp only [Act.put, List.setIfInBounds_toArray, List.set_cons_zero, List.set_cons_succ])
      | (refine mix_take (v := ?_) rfl (by rfl) ?_ ?_; rotate_left; (· intro w' hSw; unfold bxS at hSw; go_simp; (try with_reducible rfl)); rotate_right; try simp only [Act.put, List.setIfInBounds_toArray, List.set_cons_zero, List.set_cons_succ]))
     refine mix_done ?_
     go_wp2_with fail
     go_ret
     exact Hpost.out
    ·skip
     refine mix_move rfl (fun K hK => ?_)
     go_simp
     refine hK.out _ _ (by exact HbS.out _ (Hkw.out.nt (Keeps.alloc _ _))) ?_
     clear hK K
     try simp only [Act.put, List.setIfInBounds_toArray, List.set_cons_zero, List.set_cons_succ]
     repeat (first
      | (refine mix_skip rfl (by rfl) ?_; try simp only [Act.put, List.setIfInBounds_toArray, List.set_cons_zero, List.set_cons_succ])
      | (refine mix_skipm rfl (by rfl) ?_; try simp only [Act.put, List.setIfInBounds_toArray, List.set_cons_zero, List.set_cons_succ])
      | (refine mix_take (v := ?_) rfl (by rfl) ?_ ?_; rotate_left; (· intro w' hSw; unfold bxS at hSw; go_simp; (try with_reducible rfl)); rotate_right; try simp only [Act.put, List.setIfInBounds_toArray, List.set_cons_zero, List.set_cons_succ]))
     refine mix_move rfl (fun K hK => ?_)
     refine step_append_row rfl (.const (.slice none 0 0)) (.tmp 25) 25 rfl 0 54 i0 _ 5 40 Try.underlying25 Hi.out Hi0.out Hi1.out Hi2.out rfl (by decide) (.slice none 0 0) 0 [] rfl (World.ownsRow_nil _ _ _ _) _ 0 _ rfl ((Hread.out.preL Ev.cells_length 0 Hkn.out).alloc _) (Ev.one _) (by unfold maxLen; omega) (by omega) (Nat.zero_le _) ?_
     intro v2 w2 hown2 hk2 hf2
     have hfr2 := ((Fresh.nil _).keep (Hkw.out.nt (Keeps.alloc _ _))).app hk2 hf2
     have hbs2 := HbS.out _ hfr2.1
     obtain ⟨ad2, c2, rfl, _, _⟩ := ownsRow_shape hown2
     have hbx2 := Reads.blk (size := 5) (n := 1) (box_old (heap_alloc_new w1 _) hk2 (by simp [Value.ownBlock])) rfl
     simp only [Nat.zero_add, List.nil_append] at hown2 hfr2 hbx2 ⊢
     refine hK.out _ _ (by exact hbs2) ?_
     clear hK K
     try simp only [Act.put, List.setIfInBounds_toArray, List.set_cons_zero, List.set_cons_succ]
     obtain ⟨Hown2, Hfr2, Hbs2, Hbx2⟩ := hid4 hown2 hfr2 hbs2 hbx2; clear hbx2 hbs2 hfr2 hown2
     clear hf2 hk2
     repeat (first
      | (refine mix_skip rfl (by rfl) ?_; try simp only [Act.put, List.setIfInBounds_toArray, List.set_cons_zero, List.set_cons_succ])
      | (refine mix_skipm rfl (by rfl) ?_; try simp only [Act.put, List.setIfInBounds_toArray, List.set_cons_zero, List.set_cons_succ])
      | (refine mix_take (v := ?_) rfl (by rfl) ?_ ?_; rotate_left; (· intro w' hSw; unfold bxS at hSw; go_simp; (try with_reducible rfl)); rotate_right; try simp only [Act.put, List.setIfInBounds_toArray, List.set_cons_zero, List.set_cons_succ]))
     refine mix_move rfl (fun K hK => ?_)
     refine step_append_row rfl (.tmp 26) (.tmp 28) 25 rfl 0 54 i0 _ 5 40 Try.underlying25 Hi.out Hi0.out Hi1.out Hi2.out rfl (by decide) _ 0 _ rfl Hown2.out _ 1 _ rfl Hbx2.out (by simp [Value.oneCell']) (by unfold maxLen; omega) (by omega) (Nat.zero_le _) ?_
     intro v3 w3 hown3 hk3 hf3
     have hfr3 := Hfr2.out.app hk3 hf3
     have hbs3 := HbS.out _ hfr3.1
     obtain ⟨ad3, c3, rfl, _, _⟩ := ownsRow_shape hown3
     refine hK.out _ _ (by exact hbs3) ?_
     clear hK K
     try simp only [Act.put, List.setIfInBounds_toArray, List.set_cons_zero, List.set_cons_succ]
     obtain ⟨Hown3, Hfr3, Hbs3⟩ := hid3 hown3 hfr3 hbs3; clear hbs3 hfr3 hown3
     clear hf3 hk3
     repeat (first
      | (refine mix_skip rfl (by rfl) ?_; try simp only [Act.put, List.setIfInBounds_toArray, List.set_cons_zero, List.set_cons_succ])
      | (refine mix_skipm rfl (by rfl) ?_; try simp only [Act.put, List.setIfInBounds_toArray, List.set_cons_zero, List.set_cons_succ])
      | (refine mix_take (v := ?_) rfl (by rfl) ?_ ?_; rotate_left; (· intro w' hSw; unfold bxS at hSw; go_simp; (try with_reducible rfl)); rotate_right; try simp only [Act.put, List.setIfInBounds_toArray, List.set_cons_zero, List.set_cons_succ]))
     refine mix_move rfl (fun K hK => ?_)
     refine step_append_row rfl (.tmp 29) (.tmp 32) 25 rfl 0 54 i0 _ 5 40 Try.underlying25 Hi.out Hi0.out Hi1.out Hi2.out rfl (by decide) _ (0 + 1) _ rfl Hown3.out (.slice (some ⟨g, 0, none⟩) 0 0) (0) _ rfl (Hsuf.out.keeps Hfr3.out.1 (by simp)) (Ev.one _) (by unfold maxLen; omega) (by omega) (Nat.zero_le _) ?_
     intro v4 w4 hown4 hk4 hf4
     have hfr4 := Hfr3.out.app hk4 hf4
     have hpost := Hend.out v4 w4 hown4 hfr4
     obtain ⟨ad4, c4, rfl, _, _⟩ := ownsRow_shape hown4
     refine hK.out _ _ (by exact HbS.out _ hfr4.1) ?_
     clear hK K
     try simp only [Act.put, List.setIfInBounds_toArray, List.set_cons_zero, List.set_cons_succ]
     have Hpost := Lib.hid hpost; clear hpost
     clear hown4 hk4 hf4 hfr4
     repeat (first
      | (refine mix_skip rfl (by rfl) ?_; try simp only [Act.put, List.setIfInBounds_toArray, List.set_cons_zero, List.set_cons_succ])
      | (refine mix_skipm rfl (by rfl) ?_; try simp only [Act.put, List.setIfInBounds_toArray, List.set_cons_zero, List.set_cons_succ])
      | (refine mix_take (v := ?_) rfl (by rfl) ?_ ?_; rotate_left; (· intro w' hSw; unfold bxS at hSw; go_simp; (try with_reducible rfl)); rotate_right; try simp only [Act.put, List.setIfInBounds_toArray, List.set_cons_zero, List.set_cons_succ]))
     refine mix_done ?_
     go_wp2_with fail
     go_ret
     exact Hpost.out
   ·have hck2 : ¬ (cap : Int) = (0 : Int) := by omega
    have hkn : 0 ≤ n := by omega
    have hlm : 0 + 1 + (n - 0) ≤ 1000001 := by omega
    have hkI : (0 : Int) ≤ (n : Int) := by omega
    have hkI0 : (0 : Int) ≤ (0 : Int) := by omega
    have hkI2 : (0 : Int) ≤ (cap : Int) := by omega
    have hend : ∀ v4 w4, World.ownsRow w4 0 54 5 v4 (0 + 1 + (n - 0)) ((L.take 0).flatMap Ev.cells ++ [.int .i64 ki, .int .i64 da, .int .i64 tr, .int .i64 am, .int .i64 re] ++ (L.drop 0).flatMap Ev.cells) → Fresh (w.alloc (.cells #[.int .i64 ki, .int .i64 da, .int .i64 tr, .int .i64 am, .int .i64 re] 54)) w4 v4 → MakesEv w (putL L ⟨ki, da, tr, am, re⟩) (.returned v4) w4 := by
     intro v4 w4 ho hf
     have hp' := Hp.out
     refine ⟨v4, rfl, ?_, hf.up⟩
     rw [putL_length, Hn.out]
     have hL := Hn.out
     unfold putL
     simp only [hL]
     rw [hp', List.flatMap_append, List.flatMap_append]
     have hm : 0 + 1 + (n - 0) = n + 1 := by omega
     rw [hm] at ho
     exact ho
    have hsuf : Reads (w.alloc (.cells #[.int .i64 ki, .int .i64 da, .int .i64 tr, .int .i64 am, .int .i64 re] 54)) 5 (.slice (some ⟨g, 0 * 5, none⟩) (n - 0) (cap - 0)) (n - 0) ((L.drop 0).flatMap Ev.cells) := by have := ((Reads.of_owns Hr.out).sufL Ev.cells_length 0 (by omega)).alloc (.cells #[.int .i64 ki, .int .i64 da, .int .i64 tr, .int .i64 am, .int .i64 re] 54); rwa [Nat.zero_add] at this
    obtain ⟨Hend, Hsuf, Hkn⟩ := hid3 hend hsuf hkn; clear hkn hsuf hend
    refine wp_region_mixw (bxS w.heap.size ki da tr am re) (.take 0 (.take 1 (.take 2 (.take 4 (.take 7 (.take 8 (.take 9 (.fork 3 (.move 5 (.move 6 (.move 10 (.take 11 .done)))) 5 (.move 3 (.move 6 (.move 10 (.take 11 .done)))))))))))) (by kernel_rfl) (by kernel_rfl) ?_ ?_
    ·exact (HbS.out _ (Hk.out.nt (Keeps.drew _)))
    intro w1 hs1 hk1
    have hkw : Keeps (fun _ => False) (w.alloc (.cells #[.int .i64 ki, .int .i64 da, .int .i64 tr, .int .i64 am, .int .i64 re] 54)) w1 := Hk.out.nt hk1
    have hread := (Reads.of_owns Hr.out).keeps ((Keeps.alloc w _).nt hkw) (by simp)
    obtain ⟨Hkw, Hread⟩ := hid2 hkw hread; clear hread hkw
    clear hs1 hk1
    repeat (first
     | (refine mix_skip rfl (by rfl) ?_; try simp only [Act.put, List.setIfInBounds_toArray, List.set_cons_zero, List.set_cons_succ])
     | (refine mix_skipm rfl (by rfl) ?_; try simp only [Act.put, List.setIfInBounds_toArray, List.set_cons_zero, List.set_cons_succ])
     | (refine mix_take (v := ?_) rfl (by rfl) ?_ ?_; rotate_left; (· intro w' hSw; unfold bxS at hSw; go_simp; (try with_reducible rfl)); rotate_right; try simp only [Act.put, List.setIfInBounds_toArray, List.set_cons_zero, List.set_cons_succ]))
    refine mix_fork ?_ ?_ (HbS.out _ Hkw.out)
    ·skip
     refine mix_move rfl (fun K hK => ?_)
     refine step_append_row rfl (.const (.slice none 0 0)) (.tmp 25) 25 rfl 0 54 i0 _ 5 40 Try.underlying25 Hi.out Hi0.out Hi1.out Hi2.out rfl (by decide) (.slice none 0 0) 0 [] rfl (World.ownsRow_nil _ _ _ _) _ 0 _ rfl (Hread.out.preL Ev.cells_length 0 Hkn.out) (Ev.one _) (by unfold maxLen; omega) (by omega) (Nat.zero_le _) ?_
     intro v2 w2 hown2 hk2 hf2
     have hfr2 := ((Fresh.nil _).keep Hkw.out).app hk2 hf2
     have hbs2 := HbS.out _ hfr2.1
     obtain ⟨ad2, c2, rfl, _, _⟩ := ownsRow_shape hown2
     simp only [Nat.zero_add, List.nil_append] at hown2 hfr2 ⊢
     refine hK.out _ _ (by exact hbs2) ?_
     clear hK K
     try simp only [Act.put, List.setIfInBounds_toArray, List.set_cons_zero, List.set_cons_succ]
     obtain ⟨Hown2, Hfr2, Hbs2⟩ := hid3 hown2 hfr2 hbs2; clear hbs2 hfr2 hown2
     clear hf2 hk2
     repeat (first
      | (refine mix_skip rfl (by rfl) ?_; try simp only [Act.put, List.setIfInBounds_toArray, List.set_cons_zero, List.set_cons_succ])
      | (refine mix_skipm rfl (by rfl) ?_; try simp only [Act.put, List.setIfInBounds_toArray, List.set_cons_zero, List.set_cons_succ])
      | (refine mix_take (v := ?_) rfl (by rfl) ?_ ?_; rotate_left; (· intro w' hSw; unfold bxS at hSw; go_simp; (try with_reducible rfl)); rotate_right; try simp only [Act.put, List.setIfInBounds_toArray, List.set_cons_zero, List.set_cons_succ]))
     refine mix_move rfl (fun K hK => ?_)
     go_simp
     refine hK.out _ _ (by exact HbS.out _ (Hfr2.out.1.nt (Keeps.alloc _ _))) ?_
     clear hK K
     try simp only [Act.put, List.setIfInBounds_toArray, List.set_cons_zero, List.set_cons_succ]
     refine mix_move rfl (fun K hK => ?_)
     refine step_append_row rfl (.tmp 26) (.tmp 28) 25 rfl 0 54 i0 _ 5 40 Try.underlying25 Hi.out Hi0.out Hi1.out Hi2.out rfl (by decide) _ 0 _ rfl (Hown2.out.alloc _) _ 1 _ rfl (Reads.litAt _ _ _ 5 1 _ (by first | rfl | simp) rfl) (by simp [Value.oneCell']) (by unfold maxLen; omega) (by omega) (Nat.zero_le _) ?_
     intro v3 w3 hown3 hk3 hf3
     have hfr3 := (Hfr2.out.keep (Keeps.alloc _ _)).app hk3 hf3
     have hbs3 := HbS.out _ hfr3.1
     obtain ⟨ad3, c3, rfl, _, _⟩ := ownsRow_shape hown3
     refine hK.out _ _ (by exact hbs3) ?_
     clear hK K
     try simp only [Act.put, List.setIfInBounds_toArray, List.set_cons_zero, List.set_cons_succ]
     obtain ⟨Hown3, Hfr3, Hbs3⟩ := hid3 hown3 hfr3 hbs3; clear hbs3 hfr3 hown3
     clear hf3 hk3
     repeat (first
      | (refine mix_skip rfl (by rfl) ?_; try simp only [Act.put, List.setIfInBounds_toArray, List.set_cons_zero, List.set_cons_succ])
      | (refine mix_skipm rfl (by rfl) ?_; try simp only [Act.put, List.setIfInBounds_toArray, List.set_cons_zero, List.set_cons_succ])
      | (refine mix_take (v := ?_) rfl (by rfl) ?_ ?_; rotate_left; (· intro w' hSw; unfold bxS at hSw; go_simp; (try with_reducible rfl)); rotate_right; try simp only [Act.put, List.setIfInBounds_toArray, List.set_cons_zero, List.set_cons_succ]))
     refine mix_move rfl (fun K hK => ?_)
     refine step_append_row rfl (.tmp 29) (.tmp 32) 25 rfl 0 54 i0 _ 5 40 Try.underlying25 Hi.out Hi0.out Hi1.out Hi2.out rfl (by decide) _ (0 + 1) _ rfl Hown3.out (.slice (some ⟨g, 0 * 5, none⟩) (n - 0) (cap - 0)) (n - 0) _ rfl (Hsuf.out.keeps Hfr3.out.1 (by simp)) (Ev.one _) (by unfold maxLen; omega) (by omega) (Nat.zero_le _) ?_
     intro v4 w4 hown4 hk4 hf4
     have hfr4 := Hfr3.out.app hk4 hf4
     have hpost := Hend.out v4 w4 hown4 hfr4
     obtain ⟨ad4, c4, rfl, _, _⟩ := ownsRow_shape hown4
     refine hK.out _ _ (by exact HbS.out _ hfr4.1) ?_
     clear hK K
     try simp only [Act.put, List.setIfInBounds_toArray, List.set_cons_zero, List.set_cons_succ]
     have Hpost := Lib.hid hpost; clear hpost
     clear hown4 hk4 hf4 hfr4
     repeat (first
      | (refine mix_skip rfl (by rfl) ?_; try simp only [Act.put, List.setIfInBounds_toArray, List.set_cons_zero, List.set_cons_succ])
      | (refine mix_skipm rfl (by rfl) ?_; try simp only [Act.put, List.setIfInBounds_toArray, List.set_cons_zero, List.set_cons_succ])
      | (refine mix_take (v := ?_) rfl (by rfl) ?_ ?_; rotate_left; (· intro w' hSw; unfold bxS at hSw; go_simp; (try with_reducible rfl)); rotate_right; try simp only [Act.put, List.setIfInBounds_toArray, List.set_cons_zero, List.set_cons_succ]))
     refine mix_done ?_
     go_wp2_with fail
     go_ret
     exact Hpost.out
    ·skip
     refine mix_move rfl (fun K hK => ?_)
     go_simp
     refine hK.out _ _ (by exact HbS.out _ (Hkw.out.nt (Keeps.alloc _ _))) ?_
     clear hK K
     try simp only [Act.put, List.setIfInBounds_toArray, List.set_cons_zero, List.set_cons_succ]
     repeat (first
      | (refine mix_skip rfl (by rfl) ?_; try simp only [Act.put, List.setIfInBounds_toArray, List.set_cons_zero, List.set_cons_succ])
      | (refine mix_skipm rfl (by rfl) ?_; try simp only [Act.put, List.setIfInBounds_toArray, List.set_cons_zero, List.set_cons_succ])
      | (refine mix_take (v := ?_) rfl (by rfl) ?_ ?_; rotate_left; (· intro w' hSw; unfold bxS at hSw; go_simp; (try with_reducible rfl)); rotate_right; try simp only [Act.put, List.setIfInBounds_toArray, List.set_cons_zero, List.set_cons_succ]))
     refine mix_move rfl (fun K hK => ?_)
     refine step_append_row rfl (.const (.slice none 0 0)) (.tmp 25) 25 rfl 0 54 i0 _ 5 40 Try.underlying25 Hi.out Hi0.out Hi1.out Hi2.out rfl (by decide) (.slice none 0 0) 0 [] rfl (World.ownsRow_nil _ _ _ _) _ 0 _ rfl ((Hread.out.preL Ev.cells_length 0 Hkn.out).alloc _) (Ev.one _) (by unfold maxLen; omega) (by omega) (Nat.zero_le _) ?_
     intro v2 w2 hown2 hk2 hf2
     have hfr2 := ((Fresh.nil _).keep (Hkw.out.nt (Keeps.alloc _ _))).app hk2 hf2
     have hbs2 := HbS.out _ hfr2.1
     obtain ⟨ad2, c2, rfl, _, _⟩ := ownsRow_shape hown2
     have hbx2 := Reads.blk (size := 5) (n := 1) (box_old (heap_alloc_new w1 _) hk2 (by simp [Value.ownBlock])) rfl
     simp only [Nat.zero_add, List.nil_append] at hown2 hfr2 hbx2 ⊢
     refine hK.out _ _ (by exact hbs2) ?_
     clear hK K
     try simp only [Act.put, List.setIfInBounds_toArray, List.set_cons_zero, List.set_cons_succ]
     obtain ⟨Hown2, Hfr2, Hbs2, Hbx2⟩ := hid4 hown2 hfr2 hbs2 hbx2; clear hbx2 hbs2 hfr2 hown2
     clear hf2 hk2
     repeat (first
      | (refine mix_skip rfl (by rfl) ?_; try simp only [Act.put, List.setIfInBounds_toArray, List.set_cons_zero, List.set_cons_succ])
      | (refine mix_skipm rfl (by rfl) ?_; try simp only [Act.put, List.setIfInBounds_toArray, List.set_cons_zero, List.set_cons_succ])
      | (refine mix_take (v := ?_) rfl (by rfl) ?_ ?_; rotate_left; (· intro w' hSw; unfold bxS at hSw; go_simp; (try with_reducible rfl)); rotate_right; try simp only [Act.put, List.setIfInBounds_toArray, List.set_cons_zero, List.set_cons_succ]))
     refine mix_move rfl (fun K hK => ?_)
     refine step_append_row rfl (.tmp 26) (.tmp 28) 25 rfl 0 54 i0 _ 5 40 Try.underlying25 Hi.out Hi0.out Hi1.out Hi2.out rfl (by decide) _ 0 _ rfl Hown2.out _ 1 _ rfl Hbx2.out (by simp [Value.oneCell']) (by unfold maxLen; omega) (by omega) (Nat.zero_le _) ?_
     intro v3 w3 hown3 hk3 hf3
     have hfr3 := Hfr2.out.app hk3 hf3
     have hbs3 := HbS.out _ hfr3.1
     obtain ⟨ad3, c3, rfl, _, _⟩ := ownsRow_shape hown3
     refine hK.out _ _ (by exact hbs3) ?_
     clear hK K
     try simp only [Act.put, List.setIfInBounds_toArray, List.set_cons_zero, List.set_cons_succ]
     obtain ⟨Hown3, Hfr3, Hbs3⟩ := hid3 hown3 hfr3 hbs3; clear hbs3 hfr3 hown3
     clear hf3 hk3
     repeat (first
      | (refine mix_skip rfl (by rfl) ?_; try simp only [Act.put, List.setIfInBounds_toArray, List.set_cons_zero, List.set_cons_succ])
      | (refine mix_skipm rfl (by rfl) ?_; try simp only [Act.put, List.setIfInBounds_toArray, List.set_cons_zero, List.set_cons_succ])
      | (refine mix_take (v := ?_) rfl (by rfl) ?_ ?_; rotate_left; (· intro w' hSw; unfold bxS at hSw; go_simp; (try with_reducible rfl)); rotate_right; try simp only [Act.put, List.setIfInBounds_toArray, List.set_cons_zero, List.set_cons_succ]))
     refine mix_move rfl (fun K hK => ?_)
     refine step_append_row rfl (.tmp 29) (.tmp 32) 25 rfl 0 54 i0 _ 5 40 Try.underlying25 Hi.out Hi0.out Hi1.out Hi2.out rfl (by decide) _ (0 + 1) _ rfl Hown3.out (.slice (some ⟨g, 0 * 5, none⟩) (n - 0) (cap - 0)) (n - 0) _ rfl (Hsuf.out.keeps Hfr3.out.1 (by simp)) (Ev.one _) (by unfold maxLen; omega) (by omega) (Nat.zero_le _) ?_
     intro v4 w4 hown4 hk4 hf4
     have hfr4 := Hfr3.out.app hk4 hf4
     have hpost := Hend.out v4 w4 hown4 hfr4
     obtain ⟨ad4, c4, rfl, _, _⟩ := ownsRow_shape hown4
     refine hK.out _ _ (by exact HbS.out _ hfr4.1) ?_
     clear hK K
     try simp only [Act.put, List.setIfInBounds_toArray, List.set_cons_zero, List.set_cons_succ]
     have Hpost := Lib.hid hpost; clear hpost
     clear hown4 hk4 hf4 hfr4
     repeat (first
      | (refine mix_skip rfl (by rfl) ?_; try simp only [Act.put, List.setIfInBounds_toArray, List.set_cons_zero, List.set_cons_succ])
      | (refine mix_skipm rfl (by rfl) ?_; try simp only [Act.put, List.setIfInBounds_toArray, List.set_cons_zero, List.set_cons_succ])
      | (refine mix_take (v := ?_) rfl (by rfl) ?_ ?_; rotate_left; (· intro w' hSw; unfold bxS at hSw; go_simp; (try with_reducible rfl)); rotate_right; try simp only [Act.put, List.setIfInBounds_toArray, List.set_cons_zero, List.set_cons_succ]))
     refine mix_done ?_
     go_wp2_with fail
     go_ret
     exact Hpost.out
  ·obtain ⟨⟨xk, xd, xt, xa, xf⟩, hx⟩ := get_some (L := L) (k := k) (by rw [Hn.out]; omega)
   have hgx : Keeps (fun _ => False) w wr := (Keeps.alloc w _).nt hk
   obtain ⟨g', o', c', he, hc⟩ := ((Reads.of_owns Hr.out).keeps hgx (by simp)).elem Ev.cells_length hx (by decide)
   simp only [Value.slice.injEq, true_and, Option.some.injEq, Addr.mk.injEq, and_true] at he
   obtain ⟨⟨rfl, rfl⟩, rfl⟩ := he
   have x1 : wr.cell? ⟨g, k * 5 + 1, none⟩ = some (.int .i64 xd) := by have := hc 1 (by decide); rwa [Nat.zero_add] at this
   have hp2 : placeOf da L (k + 1) = if da < xd then placeOf da L k else k + 1 := by simp only [placeOf, hx]
   have q1 : IntKind.i64.wrap (((k + 1 : Nat) : Int) - 1) = (k : Int) := by rw [show ((k + 1 : Nat) : Int) - 1 = (k : Int) by omega]; exact IntWalk.i64_in _ ⟨by omega, by omega⟩
   have q2 : (0 : Int) < ((k + 1 : Nat) : Int) := by omega
   have q3 : (k : Int) < (n : Int) := by omega
   have q4 : ((k : Int) + 1) - 1 = k := by omega
   have q9 : IntKind.i64.wrap (k : Int) = (k : Int) := IntWalk.i64_in _ ⟨by omega, by omega⟩
   have hS : bxS1 w.heap.size ki da tr am re g (k * 5 + 1) xd wr.drew := ⟨x1, (HbS.out _ hk).2.1⟩
   clear hc x1
   by_cases hd : da < xd
   ·rw [hp2, if_pos hd] at hp
    have hdd : decide (da < xd) = true := by simp [hd]
    obtain ⟨Hp, Hk, Hp2, Hx, HS, Hgx⟩ := hid6 hp hk hp2 hx hS hgx; clear hgx hS hx hp2 hk hp
    go_wp2_with fail
    refine wp_region_mixw (bxS1 w.heap.size ki da tr am re g (k * 5 + 1) xd) (.take 0 (.take 1 (.take 2 (.take 3 (.take 4 (.take 5 (.take 6 (.take 7 (.take 8 (.take 9 (.take 10 (.take 11 (.take 12 .done))))))))))))) (by kernel_rfl) (by kernel_rfl) ?_ ?_
    ·exact HS.out
    intro w1 hs1 hk1
    repeat (first
     | (refine mix_skip rfl (by rfl) ?_; try simp only [Act.put, List.setIfInBounds_toArray, List.set_cons_zero, List.set_cons_succ])
     | (refine mix_skipm rfl (by rfl) ?_; try simp only [Act.put, List.setIfInBounds_toArray, List.set_cons_zero, List.set_cons_succ])
     | (refine mix_take (v := ?_) rfl (by rfl) ?_ ?_; rotate_left; (· intro w' hSw; unfold bxS1 at hSw; go_simp; (try with_reducible rfl)); rotate_right; try simp only [Act.put, List.setIfInBounds_toArray, List.set_cons_zero, List.set_cons_succ]))
    refine mix_done ?_
    have Hk := Lib.hid (Hk.out.nt hk1)
    clear hs1 hk1
    go_wp2_with fail
    go_roundw
    case rel => exact ⟨k, by go_num, by omega, Hp.out, Hk.out⟩
    case measure => simp [intOf]
   ·rw [hp2, if_neg hd] at hp
    have hdd : decide (da < xd) = false := by simp; omega
    obtain ⟨Hp, Hk, Hp2, Hx, HS, Hgx⟩ := hid6 hp hk hp2 hx hS hgx; clear hgx hS hx hp2 hk hp
    go_wp2_with fail
    refine wp_region_mixw (bxS1 w.heap.size ki da tr am re g (k * 5 + 1) xd) (.take 0 (.take 1 (.take 2 (.take 3 (.take 4 (.take 5 (.take 6 (.take 7 (.take 8 (.take 9 (.take 10 (.take 11 (.take 12 .done))))))))))))) (by kernel_rfl) (by kernel_rfl) ?_ ?_
    ·exact HS.out
    intro w1 hs1 hk1
    repeat (first
     | (refine mix_skip rfl (by rfl) ?_; try simp only [Act.put, List.setIfInBounds_toArray, List.set_cons_zero, List.set_cons_succ])
     | (refine mix_skipm rfl (by rfl) ?_; try simp only [Act.put, List.setIfInBounds_toArray, List.set_cons_zero, List.set_cons_succ])
     | (refine mix_take (v := ?_) rfl (by rfl) ?_ ?_; rotate_left; (· intro w' hSw; unfold bxS1 at hSw; go_simp; (try with_reducible rfl)); rotate_right; try simp only [Act.put, List.setIfInBounds_toArray, List.set_cons_zero, List.set_cons_succ]))
    refine mix_done ?_
    have Hk := Lib.hid (Hk.out.nt hk1)
    clear hs1 hk1
    go_wp2_with fail
    by_cases hck : cap = (k + 1)
    ·obtain rfl : n = (k + 1) := by omega
     subst hck
     have hkn : (k + 1) ≤ (k + 1) := by omega
     have hlm : (k + 1) + 1 + (0) ≤ 1000001 := by omega
     have hkI : ((k + 1) : Int) ≤ ((k + 1) : Int) := by omega
     have hkI0 : (0 : Int) ≤ ((k + 1) : Int) := by omega
     have hkI2 : ((k + 1) : Int) ≤ ((k + 1) : Int) := by omega
     have hend : ∀ v4 w4, World.ownsRow w4 0 54 5 v4 ((k + 1) + 1 + (0)) ((L.take (k + 1)).flatMap Ev.cells ++ [.int .i64 ki, .int .i64 da, .int .i64 tr, .int .i64 am, .int .i64 re] ++ (L.drop (k + 1)).flatMap Ev.cells) → Fresh (w.alloc (.cells #[.int .i64 ki, .int .i64 da, .int .i64 tr, .int .i64 am, .int .i64 re] 54)) w4 v4 → MakesEv w (putL L ⟨ki, da, tr, am, re⟩) (.returned v4) w4 := by
      intro v4 w4 ho hf
      have hp' := Hp.out
      refine ⟨v4, rfl, ?_, hf.up⟩
      rw [putL_length, Hn.out]
      have hL := Hn.out
      unfold putL
      simp only [hL]
      rw [hp', List.flatMap_append, List.flatMap_append]
      have hm : (k + 1) + 1 + (0) = (k + 1) + 1 := by omega
      rw [hm] at ho
      exact ho
     have hsuf : Reads (w.alloc (.cells #[.int .i64 ki, .int .i64 da, .int .i64 tr, .int .i64 am, .int .i64 re] 54)) 5 (.slice (some ⟨g, 0, none⟩) 0 0) (0) ((L.drop (k + 1)).flatMap Ev.cells) := by rw [List.drop_eq_nil_of_le (by rw [Hn.out]; exact Nat.le_refl _)]; exact Reads.none_of (by simp)
     obtain ⟨Hend, Hsuf, Hkn⟩ := hid3 hend hsuf hkn; clear hkn hsuf hend
     refine wp_region_mixw (bxS w.heap.size ki da tr am re) (.take 0 (.take 1 (.take 2 (.take 4 (.take 7 (.take 8 (.take 9 (.fork 3 (.move 5 (.move 6 (.move 10 (.take 11 .done)))) 5 (.move 3 (.move 6 (.move 10 (.take 11 .done)))))))))))) (by kernel_rfl) (by kernel_rfl) ?_ ?_
     ·exact (HbS.out _ (Hk.out.nt (Keeps.drew _)))
     intro w1 hs1 hk1
     have hkw : Keeps (fun _ => False) (w.alloc (.cells #[.int .i64 ki, .int .i64 da, .int .i64 tr, .int .i64 am, .int .i64 re] 54)) w1 := Hk.out.nt hk1
     have hread := (Reads.of_owns Hr.out).keeps ((Keeps.alloc w _).nt hkw) (by simp)
     obtain ⟨Hkw, Hread⟩ := hid2 hkw hread; clear hread hkw
     clear hs1 hk1
     repeat (first
      | (refine mix_skip rfl (by rfl) ?_; try simp only [Act.put, List.setIfInBounds_toArray, List.set_cons_zero, List.set_cons_succ])
      | (refine mix_skipm rfl (by rfl) ?_; try simp only [Act.put, List.setIfInBounds_toArray, List.set_cons_zero, List.set_cons_succ])
      | (refine mix_take (v := ?_) rfl (by rfl) ?_ ?_; rotate_left; (· intro w' hSw; unfold bxS at hSw; go_simp; (try with_reducible rfl)); rotate_right; try simp only [Act.put, List.setIfInBounds_toArray, List.set_cons_zero, List.set_cons_succ]))
     refine mix_fork ?_ ?_ (HbS.out _ Hkw.out)
     ·skip
      refine mix_move rfl (fun K hK => ?_)
      refine step_append_row rfl (.const (.slice none 0 0)) (.tmp 25) 25 rfl 0 54 i0 _ 5 40 Try.underlying25 Hi.out Hi0.out Hi1.out Hi2.out rfl (by decide) (.slice none 0 0) 0 [] rfl (World.ownsRow_nil _ _ _ _) _ (k + 1) _ rfl (Hread.out.preL Ev.cells_length (k + 1) Hkn.out) (Ev.one _) (by unfold maxLen; omega) (by omega) (Nat.zero_le _) ?_
      intro v2 w2 hown2 hk2 hf2
      have hfr2 := ((Fresh.nil _).keep Hkw.out).app hk2 hf2
      have hbs2 := HbS.out _ hfr2.1
      obtain ⟨ad2, c2, rfl, _, _⟩ := ownsRow_shape hown2
      simp only [Nat.zero_add, List.nil_append] at hown2 hfr2 ⊢
      refine hK.out _ _ (by exact hbs2) ?_
      clear hK K
      try simp only [Act.put, List.setIfInBounds_toArray, List.set_cons_zero, List.set_cons_succ]
      obtain ⟨Hown2, Hfr2, Hbs2⟩ := hid3 hown2 hfr2 hbs2; clear hbs2 hfr2 hown2
      clear hf2 hk2
      repeat (first
       | (refine mix_skip rfl (by rfl) ?_; try simp only [Act.put, List.setIfInBounds_toArray, List.set_cons_zero, List.set_cons_succ])
       | (refine mix_skipm rfl (by rfl) ?_; try simp only [Act.put, List.setIfInBounds_toArray, List.set_cons_zero, List.set_cons_succ])
       | (refine mix_take (v := ?_) rfl (by rfl) ?_ ?_; rotate_left; (· intro w' hSw; unfold bxS at hSw; go_simp; (try with_reducible rfl)); rotate_right; try simp only [Act.put, List.setIfInBounds_toArray, List.set_cons_zero, List.set_cons_succ]))
      refine mix_move rfl (fun K hK => ?_)
      go_simp
      refine hK.out _ _ (by exact HbS.out _ (Hfr2.out.1.nt (Keeps.alloc _ _))) ?_
      clear hK K
      try simp only [Act.put, List.setIfInBounds_toArray, List.set_cons_zero, List.set_cons_succ]
      refine mix_move rfl (fun K hK => ?_)
      refine step_append_row rfl (.tmp 26) (.tmp 28) 25 rfl 0 54 i0 _ 5 40 Try.underlying25 Hi.out Hi0.out Hi1.out Hi2.out rfl (by decide) _ (k + 1) _ rfl (Hown2.out.alloc _) _ 1 _ rfl (Reads.litAt _ _ _ 5 1 _ (by first | rfl | simp) rfl) (by simp [Value.oneCell']) (by unfold maxLen; omega) (by omega) (Nat.zero_le _) ?_
      intro v3 w3 hown3 hk3 hf3
      have hfr3 := (Hfr2.out.keep (Keeps.alloc _ _)).app hk3 hf3
      have hbs3 := HbS.out _ hfr3.1
      obtain ⟨ad3, c3, rfl, _, _⟩ := ownsRow_shape hown3
      refine hK.out _ _ (by exact hbs3) ?_
      clear hK K
      try simp only [Act.put, List.setIfInBounds_toArray, List.set_cons_zero, List.set_cons_succ]
      obtain ⟨Hown3, Hfr3, Hbs3⟩ := hid3 hown3 hfr3 hbs3; clear hbs3 hfr3 hown3
      clear hf3 hk3
      repeat (first
       | (refine mix_skip rfl (by rfl) ?_; try simp only [Act.put, List.setIfInBounds_toArray, List.set_cons_zero, List.set_cons_succ])
       | (refine mix_skipm rfl (by rfl) ?_; try simp only [Act.put, List.setIfInBounds_toArray, List.set_cons_zero, List.set_cons_succ])
       | (refine mix_take (v := ?_) rfl (by rfl) ?_ ?_; rotate_left; (· intro w' hSw; unfold bxS at hSw; go_simp; (try with_reducible rfl)); rotate_right; try simp only [Act.put, List.setIfInBounds_toArray, List.set_cons_zero, List.set_cons_succ]))
      refine mix_move rfl (fun K hK => ?_)
      refine step_append_row rfl (.tmp 29) (.tmp 32) 25 rfl 0 54 i0 _ 5 40 Try.underlying25 Hi.out Hi0.out Hi1.out Hi2.out rfl (by decide) _ ((k + 1) + 1) _ rfl Hown3.out (.slice (some ⟨g, 0, none⟩) 0 0) (0) _ rfl (Hsuf.out.keeps Hfr3.out.1 (by simp)) (Ev.one _) (by unfold maxLen; omega) (by omega) (Nat.zero_le _) ?_
      intro v4 w4 hown4 hk4 hf4
      have hfr4 := Hfr3.out.app hk4 hf4
      have hpost := Hend.out v4 w4 hown4 hfr4
      obtain ⟨ad4, c4, rfl, _, _⟩ := ownsRow_shape hown4
      refine hK.out _ _ (by exact HbS.out _ hfr4.1) ?_
      clear hK K
      try simp only [Act.put, List.setIfInBounds_toArray, List.set_cons_zero, List.set_cons_succ]
      have Hpost := Lib.hid hpost; clear hpost
      clear hown4 hk4 hf4 hfr4
      repeat (first
       | (refine mix_skip rfl (by rfl) ?_; try simp only [Act.put, List.setIfInBounds_toArray, List.set_cons_zero, List.set_cons_succ])
       | (refine mix_skipm rfl (by rfl) ?_; try simp only [Act.put, List.setIfInBounds_toArray, List.set_cons_zero, List.set_cons_succ])
       | (refine mix_take (v := ?_) rfl (by rfl) ?_ ?_; rotate_left; (· intro w' hSw; unfold bxS at hSw; go_simp; (try with_reducible rfl)); rotate_right; try simp only [Act.put, List.setIfInBounds_toArray, List.set_cons_zero, List.set_cons_succ]))
      refine mix_done ?_
      go_wp2_with fail
      go_ret
      exact Hpost.out
     ·skip
      refine mix_move rfl (fun K hK => ?_)
      go_simp
      refine hK.out _ _ (by exact HbS.out _ (Hkw.out.nt (Keeps.alloc _ _))) ?_
      clear hK K
      try simp only [Act.put, List.setIfInBounds_toArray, List.set_cons_zero, List.set_cons_succ]
      repeat (first
       | (refine mix_skip rfl (by rfl) ?_; try simp only [Act.put, List.setIfInBounds_toArray, List.set_cons_zero, List.set_cons_succ])
       | (refine mix_skipm rfl (by rfl) ?_; try simp only [Act.put, List.setIfInBounds_toArray, List.set_cons_zero, List.set_cons_succ])
       | (refine mix_take (v := ?_) rfl (by rfl) ?_ ?_; rotate_left; (· intro w' hSw; unfold bxS at hSw; go_simp; (try with_reducible rfl)); rotate_right; try simp only [Act.put, List.setIfInBounds_toArray, List.set_cons_zero, List.set_cons_succ]))
      refine mix_move rfl (fun K hK => ?_)
      refine step_append_row rfl (.const (.slice none 0 0)) (.tmp 25) 25 rfl 0 54 i0 _ 5 40 Try.underlying25 Hi.out Hi0.out Hi1.out Hi2.out rfl (by decide) (.slice none 0 0) 0 [] rfl (World.ownsRow_nil _ _ _ _) _ (k + 1) _ rfl ((Hread.out.preL Ev.cells_length (k + 1) Hkn.out).alloc _) (Ev.one _) (by unfold maxLen; omega) (by omega) (Nat.zero_le _) ?_
      intro v2 w2 hown2 hk2 hf2
      have hfr2 := ((Fresh.nil _).keep (Hkw.out.nt (Keeps.alloc _ _))).app hk2 hf2
      have hbs2 := HbS.out _ hfr2.1
      obtain ⟨ad2, c2, rfl, _, _⟩ := ownsRow_shape hown2
      have hbx2 := Reads.blk (size := 5) (n := 1) (box_old (heap_alloc_new w1 _) hk2 (by simp [Value.ownBlock])) rfl
      simp only [Nat.zero_add, List.nil_append] at hown2 hfr2 hbx2 ⊢
      refine hK.out _ _ (by exact hbs2) ?_
      clear hK K
      try simp only [Act.put, List.setIfInBounds_toArray, List.set_cons_zero, List.set_cons_succ]
      obtain ⟨Hown2, Hfr2, Hbs2, Hbx2⟩ := hid4 hown2 hfr2 hbs2 hbx2; clear hbx2 hbs2 hfr2 hown2
      clear hf2 hk2
      repeat (first
       | (refine mix_skip rfl (by rfl) ?_; try simp only [Act.put, List.setIfInBounds_toArray, List.set_cons_zero, List.set_cons_succ])
       | (refine mix_skipm rfl (by rfl) ?_; try simp only [Act.put, List.setIfInBounds_toArray, List.set_cons_zero, List.set_cons_succ])
       | (refine mix_take (v := ?_) rfl (by rfl) ?_ ?_; rotate_left; (· intro w' hSw; unfold bxS at hSw; go_simp; (try with_reducible rfl)); rotate_right; try simp only [Act.put, List.setIfInBounds_toArray, List.set_cons_zero, List.set_cons_succ]))
      refine mix_move rfl (fun K hK => ?_)
      refine step_append_row rfl (.tmp 26) (.tmp 28) 25 rfl 0 54 i0 _ 5 40 Try.underlying25 Hi.out Hi0.out Hi1.out Hi2.out rfl (by decide) _ (k + 1) _ rfl Hown2.out _ 1 _ rfl Hbx2.out (by simp [Value.oneCell']) (by unfold maxLen; omega) (by omega) (Nat.zero_le _) ?_
      intro v3 w3 hown3 hk3 hf3
      have hfr3 := Hfr2.out.app hk3 hf3
      have hbs3 := HbS.out _ hfr3.1
      obtain ⟨ad3, c3, rfl, _, _⟩ := ownsRow_shape hown3
      refine hK.out _ _ (by exact hbs3) ?_
      clear hK K
      try simp only [Act.put, List.setIfInBounds_toArray, List.set_cons_zero, List.set_cons_succ]
      obtain ⟨Hown3, Hfr3, Hbs3⟩ := hid3 hown3 hfr3 hbs3; clear hbs3 hfr3 hown3
      clear hf3 hk3
      repeat (first
       | (refine mix_skip rfl (by rfl) ?_; try simp only [Act.put, List.setIfInBounds_toArray, List.set_cons_zero, List.set_cons_succ])
       | (refine mix_skipm rfl (by rfl) ?_; try simp only [Act.put, List.setIfInBounds_toArray, List.set_cons_zero, List.set_cons_succ])
       | (refine mix_take (v := ?_) rfl (by rfl) ?_ ?_; rotate_left; (· intro w' hSw; unfold bxS at hSw; go_simp; (try with_reducible rfl)); rotate_right; try simp only [Act.put, List.setIfInBounds_toArray, List.set_cons_zero, List.set_cons_succ]))
      refine mix_move rfl (fun K hK => ?_)
      refine step_append_row rfl (.tmp 29) (.tmp 32) 25 rfl 0 54 i0 _ 5 40 Try.underlying25 Hi.out Hi0.out Hi1.out Hi2.out rfl (by decide) _ ((k + 1) + 1) _ rfl Hown3.out (.slice (some ⟨g, 0, none⟩) 0 0) (0) _ rfl (Hsuf.out.keeps Hfr3.out.1 (by simp)) (Ev.one _) (by unfold maxLen; omega) (by omega) (Nat.zero_le _) ?_
      intro v4 w4 hown4 hk4 hf4
      have hfr4 := Hfr3.out.app hk4 hf4
      have hpost := Hend.out v4 w4 hown4 hfr4
      obtain ⟨ad4, c4, rfl, _, _⟩ := ownsRow_shape hown4
      refine hK.out _ _ (by exact HbS.out _ hfr4.1) ?_
      clear hK K
      try simp only [Act.put, List.setIfInBounds_toArray, List.set_cons_zero, List.set_cons_succ]
      have Hpost := Lib.hid hpost; clear hpost
      clear hown4 hk4 hf4 hfr4
      repeat (first
       | (refine mix_skip rfl (by rfl) ?_; try simp only [Act.put, List.setIfInBounds_toArray, List.set_cons_zero, List.set_cons_succ])
       | (refine mix_skipm rfl (by rfl) ?_; try simp only [Act.put, List.setIfInBounds_toArray, List.set_cons_zero, List.set_cons_succ])
       | (refine mix_take (v := ?_) rfl (by rfl) ?_ ?_; rotate_left; (· intro w' hSw; unfold bxS at hSw; go_simp; (try with_reducible rfl)); rotate_right; try simp only [Act.put, List.setIfInBounds_toArray, List.set_cons_zero, List.set_cons_succ]))
      refine mix_done ?_
      go_wp2_with fail
      go_ret
      exact Hpost.out
    ·have hck2 : ¬ (cap : Int) = ((k + 1) : Int) := by omega
     have hkn : (k + 1) ≤ n := by omega
     have hlm : (k + 1) + 1 + (n - (k + 1)) ≤ 1000001 := by omega
     have hkI : ((k + 1) : Int) ≤ (n : Int) := by omega
     have hkI0 : (0 : Int) ≤ ((k + 1) : Int) := by omega
     have hkI2 : ((k + 1) : Int) ≤ (cap : Int) := by omega
     have hend : ∀ v4 w4, World.ownsRow w4 0 54 5 v4 ((k + 1) + 1 + (n - (k + 1))) ((L.take (k + 1)).flatMap Ev.cells ++ [.int .i64 ki, .int .i64 da, .int .i64 tr, .int .i64 am, .int .i64 re] ++ (L.drop (k + 1)).flatMap Ev.cells) → Fresh (w.alloc (.cells #[.int .i64 ki, .int .i64 da, .int .i64 tr, .int .i64 am, .int .i64 re] 54)) w4 v4 → MakesEv w (putL L ⟨ki, da, tr, am, re⟩) (.returned v4) w4 := by
      intro v4 w4 ho hf
      have hp' := Hp.out
      refine ⟨v4, rfl, ?_, hf.up⟩
      rw [putL_length, Hn.out]
      have hL := Hn.out
      unfold putL
      simp only [hL]
      rw [hp', List.flatMap_append, List.flatMap_append]
      have hm : (k + 1) + 1 + (n - (k + 1)) = n + 1 := by omega
      rw [hm] at ho
      exact ho
     have hsuf : Reads (w.alloc (.cells #[.int .i64 ki, .int .i64 da, .int .i64 tr, .int .i64 am, .int .i64 re] 54)) 5 (.slice (some ⟨g, (k + 1) * 5, none⟩) (n - (k + 1)) (cap - (k + 1))) (n - (k + 1)) ((L.drop (k + 1)).flatMap Ev.cells) := by have := ((Reads.of_owns Hr.out).sufL Ev.cells_length (k + 1) (by omega)).alloc (.cells #[.int .i64 ki, .int .i64 da, .int .i64 tr, .int .i64 am, .int .i64 re] 54); rwa [Nat.zero_add] at this
     obtain ⟨Hend, Hsuf, Hkn⟩ := hid3 hend hsuf hkn; clear hkn hsuf hend
     refine wp_region_mixw (bxS w.heap.size ki da tr am re) (.take 0 (.take 1 (.take 2 (.take 4 (.take 7 (.take 8 (.take 9 (.fork 3 (.move 5 (.move 6 (.move 10 (.take 11 .done)))) 5 (.move 3 (.move 6 (.move 10 (.take 11 .done)))))))))))) (by kernel_rfl) (by kernel_rfl) ?_ ?_
     ·exact (HbS.out _ (Hk.out.nt (Keeps.drew _)))
     intro w1 hs1 hk1
     have hkw : Keeps (fun _ => False) (w.alloc (.cells #[.int .i64 ki, .int .i64 da, .int .i64 tr, .int .i64 am, .int .i64 re] 54)) w1 := Hk.out.nt hk1
     have hread := (Reads.of_owns Hr.out).keeps ((Keeps.alloc w _).nt hkw) (by simp)
     obtain ⟨Hkw, Hread⟩ := hid2 hkw hread; clear hread hkw
     clear hs1 hk1
     repeat (first
      | (refine mix_skip rfl (by rfl) ?_; try simp only [Act.put, List.setIfInBounds_toArray, List.set_cons_zero, List.set_cons_succ])
      | (refine mix_skipm rfl (by rfl) ?_; try simp only [Act.put, List.setIfInBounds_toArray, List.set_cons_zero, List.set_cons_succ])
      | (refine mix_take (v := ?_) rfl (by rfl) ?_ ?_; rotate_left; (· intro w' hSw; unfold bxS at hSw; go_simp; (try with_reducible rfl)); rotate_right; try simp only [Act.put, List.setIfInBounds_toArray, List.set_cons_zero, List.set_cons_succ]))
     refine mix_fork ?_ ?_ (HbS.out _ Hkw.out)
     ·skip
      refine mix_move rfl (fun K hK => ?_)
      refine step_append_row rfl (.const (.slice none 0 0)) (.tmp 25) 25 rfl 0 54 i0 _ 5 40 Try.underlying25 Hi.out Hi0.out Hi1.out Hi2.out rfl (by decide) (.slice none 0 0) 0 [] rfl (World.ownsRow_nil _ _ _ _) _ (k + 1) _ rfl (Hread.out.preL Ev.cells_length (k + 1) Hkn.out) (Ev.one _) (by unfold maxLen; omega) (by omega) (Nat.zero_le _) ?_
      intro v2 w2 hown2 hk2 hf2
      have hfr2 := ((Fresh.nil _).keep Hkw.out).app hk2 hf2
      have hbs2 := HbS.out _ hfr2.1
      obtain ⟨ad2, c2, rfl, _, _⟩ := ownsRow_shape hown2
      simp only [Nat.zero_add, List.nil_append] at hown2 hfr2 ⊢
      refine hK.out _ _ (by exact hbs2) ?_
      clear hK K
      try simp only [Act.put, List.setIfInBounds_toArray, List.set_cons_zero, List.set_cons_succ]
      obtain ⟨Hown2, Hfr2, Hbs2⟩ := hid3 hown2 hfr2 hbs2; clear hbs2 hfr2 hown2
      clear hf2 hk2
      repeat (first
       | (refine mix_skip rfl (by rfl) ?_; try simp only [Act.put, List.setIfInBounds_toArray, List.set_cons_zero, List.set_cons_succ])
       | (refine mix_skipm rfl (by rfl) ?_; try simp only [Act.put, List.setIfInBounds_toArray, List.set_cons_zero, List.set_cons_succ])
       | (refine mix_take (v := ?_) rfl (by rfl) ?_ ?_; rotate_left; (· intro w' hSw; unfold bxS at hSw; go_simp; (try with_reducible rfl)); rotate_right; try simp only [Act.put, List.setIfInBounds_toArray, List.set_cons_zero, List.set_cons_succ]))
      refine mix_move rfl (fun K hK => ?_)
      go_simp
      refine hK.out _ _ (by exact HbS.out _ (Hfr2.out.1.nt (Keeps.alloc _ _))) ?_
      clear hK K
      try simp only [Act.put, List.setIfInBounds_toArray, List.set_cons_zero, List.set_cons_succ]
      refine mix_move rfl (fun K hK => ?_)
      refine step_append_row rfl (.tmp 26) (.tmp 28) 25 rfl 0 54 i0 _ 5 40 Try.underlying25 Hi.out Hi0.out Hi1.out Hi2.out rfl (by decide) _ (k + 1) _ rfl (Hown2.out.alloc _) _ 1 _ rfl (Reads.litAt _ _ _ 5 1 _ (by first | rfl | simp) rfl) (by simp [Value.oneCell']) (by unfold maxLen; omega) (by omega) (Nat.zero_le _) ?_
      intro v3 w3 hown3 hk3 hf3
      have hfr3 := (Hfr2.out.keep (Keeps.alloc _ _)).app hk3 hf3
      have hbs3 := HbS.out _ hfr3.1
      obtain ⟨ad3, c3, rfl, _, _⟩ := ownsRow_shape hown3
      refine hK.out _ _ (by exact hbs3) ?_
      clear hK K
      try simp only [Act.put, List.setIfInBounds_toArray, List.set_cons_zero, List.set_cons_succ]
      obtain ⟨Hown3, Hfr3, Hbs3⟩ := hid3 hown3 hfr3 hbs3; clear hbs3 hfr3 hown3
      clear hf3 hk3
      repeat (first
       | (refine mix_skip rfl (by rfl) ?_; try simp only [Act.put, List.setIfInBounds_toArray, List.set_cons_zero, List.set_cons_succ])
       | (refine mix_skipm rfl (by rfl) ?_; try simp only [Act.put, List.setIfInBounds_toArray, List.set_cons_zero, List.set_cons_succ])
       | (refine mix_take (v := ?_) rfl (by rfl) ?_ ?_; rotate_left; (· intro w' hSw; unfold bxS at hSw; go_simp; (try with_reducible rfl)); rotate_right; try simp only [Act.put, List.setIfInBounds_toArray, List.set_cons_zero, List.set_cons_succ]))
      refine mix_move rfl (fun K hK => ?_)
      refine step_append_row rfl (.tmp 29) (.tmp 32) 25 rfl 0 54 i0 _ 5 40 Try.underlying25 Hi.out Hi0.out Hi1.out Hi2.out rfl (by decide) _ ((k + 1) + 1) _ rfl Hown3.out (.slice (some ⟨g, (k + 1) * 5, none⟩) (n - (k + 1)) (cap - (k + 1))) (n - (k + 1)) _ rfl (Hsuf.out.keeps Hfr3.out.1 (by simp)) (Ev.one _) (by unfold maxLen; omega) (by omega) (Nat.zero_le _) ?_
      intro v4 w4 hown4 hk4 hf4
      have hfr4 := Hfr3.out.app hk4 hf4
      have hpost := Hend.out v4 w4 hown4 hfr4
      obtain ⟨ad4, c4, rfl, _, _⟩ := ownsRow_shape hown4
      refine hK.out _ _ (by exact HbS.out _ hfr4.1) ?_
      clear hK K
      try simp only [Act.put, List.setIfInBounds_toArray, List.set_cons_zero, List.set_cons_succ]
      have Hpost := Lib.hid hpost; clear hpost
      clear hown4 hk4 hf4 hfr4
      repeat (first
       | (refine mix_skip rfl (by rfl) ?_; try simp only [Act.put, List.setIfInBounds_toArray, List.set_cons_zero, List.set_cons_succ])
       | (refine mix_skipm rfl (by rfl) ?_; try simp only [Act.put, List.setIfInBounds_toArray, List.set_cons_zero, List.set_cons_succ])
       | (refine mix_take (v := ?_) rfl (by rfl) ?_ ?_; rotate_left; (· intro w' hSw; unfold bxS at hSw; go_simp; (try with_reducible rfl)); rotate_right; try simp only [Act.put, List.setIfInBounds_toArray, List.set_cons_zero, List.set_cons_succ]))
      refine mix_done ?_
      go_wp2_with fail
      go_ret
      exact Hpost.out
     ·skip
      refine mix_move rfl (fun K hK => ?_)
      go_simp
      refine hK.out _ _ (by exact HbS.out _ (Hkw.out.nt (Keeps.alloc _ _))) ?_
      clear hK K
      try simp only [Act.put, List.setIfInBounds_toArray, List.set_cons_zero, List.set_cons_succ]
      repeat (first
       | (refine mix_skip rfl (by rfl) ?_; try simp only [Act.put, List.setIfInBounds_toArray, List.set_cons_zero, List.set_cons_succ])
       | (refine mix_skipm rfl (by rfl) ?_; try simp only [Act.put, List.setIfInBounds_toArray, List.set_cons_zero, List.set_cons_succ])
       | (refine mix_take (v := ?_) rfl (by rfl) ?_ ?_; rotate_left; (· intro w' hSw; unfold bxS at hSw; go_simp; (try with_reducible rfl)); rotate_right; try simp only [Act.put, List.setIfInBounds_toArray, List.set_cons_zero, List.set_cons_succ]))
      refine mix_move rfl (fun K hK => ?_)
      refine step_append_row rfl (.const (.slice none 0 0)) (.tmp 25) 25 rfl 0 54 i0 _ 5 40 Try.underlying25 Hi.out Hi0.out Hi1.out Hi2.out rfl (by decide) (.slice none 0 0) 0 [] rfl (World.ownsRow_nil _ _ _ _) _ (k + 1) _ rfl ((Hread.out.preL Ev.cells_length (k + 1) Hkn.out).alloc _) (Ev.one _) (by unfold maxLen; omega) (by omega) (Nat.zero_le _) ?_
      intro v2 w2 hown2 hk2 hf2
      have hfr2 := ((Fresh.nil _).keep (Hkw.out.nt (Keeps.alloc _ _))).app hk2 hf2
      have hbs2 := HbS.out _ hfr2.1
      obtain ⟨ad2, c2, rfl, _, _⟩ := ownsRow_shape hown2
      have hbx2 := Reads.blk (size := 5) (n := 1) (box_old (heap_alloc_new w1 _) hk2 (by simp [Value.ownBlock])) rfl
      simp only [Nat.zero_add, List.nil_append] at hown2 hfr2 hbx2 ⊢
      refine hK.out _ _ (by exact hbs2) ?_
      clear hK K
      try simp only [Act.put, List.setIfInBounds_toArray, List.set_cons_zero, List.set_cons_succ]
      obtain ⟨Hown2, Hfr2, Hbs2, Hbx2⟩ := hid4 hown2 hfr2 hbs2 hbx2; clear hbx2 hbs2 hfr2 hown2
      clear hf2 hk2
      repeat (first
       | (refine mix_skip rfl (by rfl) ?_; try simp only [Act.put, List.setIfInBounds_toArray, List.set_cons_zero, List.set_cons_succ])
       | (refine mix_skipm rfl (by rfl) ?_; try simp only [Act.put, List.setIfInBounds_toArray, List.set_cons_zero, List.set_cons_succ])
       | (refine mix_take (v := ?_) rfl (by rfl) ?_ ?_; rotate_left; (· intro w' hSw; unfold bxS at hSw; go_simp; (try with_reducible rfl)); rotate_right; try simp only [Act.put, List.setIfInBounds_toArray, List.set_cons_zero, List.set_cons_succ]))
      refine mix_move rfl (fun K hK => ?_)
      refine step_append_row rfl (.tmp 26) (.tmp 28) 25 rfl 0 54 i0 _ 5 40 Try.underlying25 Hi.out Hi0.out Hi1.out Hi2.out rfl (by decide) _ (k + 1) _ rfl Hown2.out _ 1 _ rfl Hbx2.out (by simp [Value.oneCell']) (by unfold maxLen; omega) (by omega) (Nat.zero_le _) ?_
      intro v3 w3 hown3 hk3 hf3
      have hfr3 := Hfr2.out.app hk3 hf3
      have hbs3 := HbS.out _ hfr3.1
      obtain ⟨ad3, c3, rfl, _, _⟩ := ownsRow_shape hown3
      refine hK.out _ _ (by exact hbs3) ?_
      clear hK K
      try simp only [Act.put, List.setIfInBounds_toArray, List.set_cons_zero, List.set_cons_succ]
      obtain ⟨Hown3, Hfr3, Hbs3⟩ := hid3 hown3 hfr3 hbs3; clear hbs3 hfr3 hown3
      clear hf3 hk3
      repeat (first
       | (refine mix_skip rfl (by rfl) ?_; try simp only [Act.put, List.setIfInBounds_toArray, List.set_cons_zero, List.set_cons_succ])
       | (refine mix_skipm rfl (by rfl) ?_; try simp only [Act.put, List.setIfInBounds_toArray, List.set_cons_zero, List.set_cons_succ])
       | (refine mix_take (v := ?_) rfl (by rfl) ?_ ?_; rotate_left; (· intro w' hSw; unfold bxS at hSw; go_simp; (try with_reducible rfl)); rotate_right; try simp only [Act.put, List.setIfInBounds_toArray, List.set_cons_zero, List.set_cons_succ]))
      refine mix_move rfl (fun K hK => ?_)
      refine step_append_row rfl (.tmp 29) (.tmp 32) 25 rfl 0 54 i0 _ 5 40 Try.underlying25 Hi.out Hi0.out Hi1.out Hi2.out rfl (by decide) _ ((k + 1) + 1) _ rfl Hown3.out (.slice (some ⟨g, (k + 1) * 5, none⟩) (n - (k + 1)) (cap - (k + 1))) (n - (k + 1)) _ rfl (Hsuf.out.keeps Hfr3.out.1 (by simp)) (Ev.one _) (by unfold maxLen; omega) (by omega) (Nat.zero_le _) ?_
      intro v4 w4 hown4 hk4 hf4
      have hfr4 := Hfr3.out.app hk4 hf4
      have hpost := Hend.out v4 w4 hown4 hfr4
      obtain ⟨ad4, c4, rfl, _, _⟩ := ownsRow_shape hown4
      refine hK.out _ _ (by exact HbS.out _ hfr4.1) ?_
      clear hK K
      try simp only [Act.put, List.setIfInBounds_toArray, List.set_cons_zero, List.set_cons_succ]
      have Hpost := Lib.hid hpost; clear hpost
      clear hown4 hk4 hf4 hfr4
      repeat (first
       | (refine mix_skip rfl (by rfl) ?_; try simp only [Act.put, List.setIfInBounds_toArray, List.set_cons_zero, List.set_cons_succ])
       | (refine mix_skipm rfl (by rfl) ?_; try simp only [Act.put, List.setIfInBounds_toArray, List.set_cons_zero, List.set_cons_succ])
       | (refine mix_take (v := ?_) rfl (by rfl) ?_ ?_; rotate_left; (· intro w' hSw; unfold bxS at hSw; go_simp; (try with_reducible rfl)); rotate_right; try simp only [Act.put, List.setIfInBounds_toArray, List.set_cons_zero, List.set_cons_succ]))
      refine mix_done ?_
      go_wp2_with fail
      go_ret
      exact Hpost.out
theorem rdatPut_any (e : Ev) (L : List Ev) (v : Value) (w : World) (hr : w.ownsRow 0 54 5 v L.length (L.flatMap Ev.cells)) (hl : L.length ≤ 1000000) : Calls Try.prog 27 #[v, e.agg] w (MakesEv w (putL L e)) := by
 rcases id hr.2 with ⟨h1, h2⟩ | ⟨g, cap, cur, rfl, _⟩
 ·obtain rfl : L = [] := List.eq_nil_of_length_eq_zero h2
  subst h1
  exact rdatPut_nil e w
 ·exact rdatPut_row g cap e L w hr hl
end Go.Proofs.Ythcmpcekmkioaaa
namespace Go.Proofs.Ythcmpcekmkioaaa
open Go.RowKit
theorem filter_snoc_yes {p : Ev → Bool} {L : List Ev} {i : Nat} {x : Ev} (hx : L[i]? = some x) (h : p x = true) : (L.take (i + 1)).filter p = (L.take i).filter p ++ [x] := by
 rw [take_snoc' hx, List.filter_append]; simp [h]
theorem filter_snoc_no {p : Ev → Bool} {L : List Ev} {i : Nat} {x : Ev} (hx : L[i]? = some x) (h : p x = false) : (L.take (i + 1)).filter p = (L.take i).filter p := by
 rw [take_snoc' hx, List.filter_append]; simp [h]
def Gath (w : World) (M : List Ev) (v : Value) (W : World) : Prop := W.ownsRow 0 54 5 v M.length (M.flatMap Ev.cells) ∧ Fresh w W v
theorem Gath.nil (w : World) : Gath w [] (.slice none 0 0) w := ⟨World.ownsRow_nil _ _ _ _, Fresh.nil w⟩
theorem Gath.keep {w W W' : World} {M : List Ev} {v : Value} (h : Gath w M v W) (hk : Keeps (fun _ => False) W W') : Gath w M v W' := ⟨h.1.of_keeps hk, h.2.keep hk⟩
set_option maxRecDepth 100000 in
set_option maxHeartbeats 1600000 in
theorem rdatSort_any (L : List Ev) (ad : Option Addr) (cap : Nat) (w : World) (hr : Reads w 5 (.slice ad L.length cap) L.length (L.flatMap Ev.cells)) (hl : L.length ≤ 1000000) : Calls Try.prog 15 #[.slice ad L.length cap] w (MakesEv w (sortL L)) := by
 obtain ⟨n, hn⟩ : ∃ n, L.length = n := ⟨_, rfl⟩
 rw [hn] at hr hl ⊢
 obtain ⟨Hn, Hr⟩ := hid2 hn hr; clear hr hn
 go_enter Try.func15, Try.ntmps15
 go_wp2
 go_loopw [3, 4] (fun x y wx => ∃ (i : Nat) (M : List Ev), y = .int .i64 (i : Nat) ∧ i ≤ n ∧ sortL (L.take i) = M ∧ M.length = i ∧ Gath w M x wx) (fun _ y _ => n - (intOf y).toNat)
 case atStart => exact ⟨0, [], rfl, Nat.zero_le _, rfl, rfl, Gath.nil w⟩
 case round =>
  obtain ⟨i, M, rfl, hin, hM, hq, hg⟩ := hrel
  by_cases hlt : i < n
  ·obtain ⟨x, hx⟩ := get_some (L := L) (k := i) (by rw [Hn.out]; exact hlt)
   obtain ⟨g, o, c', he, hc⟩ := (Hr.out.keeps hg.2.1 (by simp)).elem Ev.cells_length hx (by decide)
   simp only [Value.slice.injEq, true_and] at he
   obtain ⟨rfl, rfl⟩ := he
   have hput := rdatPut_any x M _ wr hg.1 (by omega)
   have hp2 := sortL_snoc (L.take i) x
   rw [← take_snoc' hx, hM] at hp2
   obtain ⟨xk, xd, xt, xa, xf⟩ := x
   have x0 : wr.cell? ⟨g, o + i * 5, none⟩ = some (.int .i64 xk) := hc 0 (by decide)
   have x1 : wr.cell? ⟨g, o + i * 5 + 1, none⟩ = some (.int .i64 xd) := hc 1 (by decide)
   have x2 : wr.cell? ⟨g, o + i * 5 + 2, none⟩ = some (.int .i64 xt) := hc 2 (by decide)
   have x3 : wr.cell? ⟨g, o + i * 5 + 3, none⟩ = some (.int .i64 xa) := hc 3 (by decide)
   have x4 : wr.cell? ⟨g, o + i * 5 + 4, none⟩ = some (.int .i64 xf) := hc 4 (by decide)
   have hgl := cell_lt x0
   obtain ⟨adv, cv, rfl, _, _⟩ := ownsRow_shape hg.1
   have hlen : (putL M ⟨xk, xd, xt, xa, xf⟩).length = i + 1 := by rw [putL_length, hq]
   clear hc
   rw [hq] at hput ⊢
   simp only [Ev.agg] at hput
   obtain ⟨Hg, HM, Hx, Hq, Hp2, Hput, Hlen⟩ := hid7 hg hM hx hq hp2 hput hlen; clear hlen hput hp2 hq hx hM hg
   go_wp2_with (go_at_call 27; (with_reducible refine Hput.out.mono ?_); rintro e w4 ⟨v4, rfl, hown4, hfr4⟩; have hg4 : Gath w _ v4 w4 := ⟨hown4, Hg.out.2.1.nt hfr4.1, fun g hg => by have := hfr4.2 g hg; have := Hg.out.2.1.size; omega⟩; obtain ⟨ad4, c4, rfl, _, _⟩ := ownsRow_shape hown4; have Hg4 := Lib.hid hg4; clear hown4 hfr4 hg4)
   go_roundw
   case rel => exact ⟨i + 1, _, by go_num, by omega, Hp2.out, Hlen.out, Hg4.out⟩
   case measure => simp [intOf]; omega
  ·obtain rfl : i = n := by omega
   rw [List.take_of_length_le (by rw [Hn.out]; exact Nat.le_refl _)] at hM
   obtain ⟨adv, cv, rfl, _, _⟩ := ownsRow_shape hg.1
   obtain ⟨Hg, HM, Hq⟩ := hid3 hg hM hq; clear hq hM hg
   go_wp2
   go_ret
   exact ⟨_, rfl, by rw [HM.out]; exact Hg.out.1, Hg.out.2⟩
end Go.Proofs.Ythcmpcekmkioaaa
namespace Go.Proofs.Ythcmpcekmkioaaa
open Go.RowKit
inductive RunIs (w0 : World) (m : Nat) (Z : St × Int) (W : World) : Value → Int → Int → Value → Value → Int → Prop
 | ok {vb vr vo : Value} {P : List SV} : Z.2 = 0 → WalkRes w0 m Z.1 vb vr vo P W → RunIs w0 m Z W vb Z.1.p.cr Z.1.p.du vr vo 0
 | bad : ¬ Z.2 = 0 → RunIs w0 m Z W (.slice none 0 0) 0 0 (.slice none 0 0) (.slice none 0 0) Z.2
theorem run_is {m : Nat} {Z : St × Int} {w W : World} {e : Ending} (h : WalkPost w m Z e W) : ∃ vb cr du vr vo z, e = .returned (.tuple #[.agg #[vb, .int .i64 cr, .int .i64 du], vr, vo, .int .i64 z]) ∧ RunIs w m Z W vb cr du vr vo z ∧ Keeps (fun _ => False) w W ∧ ∃ a n c, vb = .slice a n c := by
 rcases h with ⟨hz, vb, vr, vo, P, rfl, hres⟩ | ⟨hz, rfl, hk⟩
 ·obtain ⟨a, c, h, _⟩ := ownsRow_shape hres.bal
  exact ⟨_, _, _, _, _, _, rfl, .ok hz hres, hres.kp, a, _, c, h⟩
 ·exact ⟨_, _, _, _, _, _, rfl, .bad hz, hk, none, 0, 0, rfl⟩
theorem RunIs.keep {w0 : World} {m : Nat} {Z : St × Int} {W W' : World} {vb vr vo : Value} {cr du z : Int} (h : RunIs w0 m Z W vb cr du vr vo z) (hk : Keeps (fun _ => False) W W') : RunIs w0 m Z W' vb cr du vr vo z := by
 cases h with
 | ok e g => exact .ok e ⟨g.bal.of_keeps hk, g.rts.of_keeps hk, g.out.of_keeps hk, fun x hx => (g.ln x hx).of_keeps hk, g.lp, g.nb, g.nr, g.wb, g.wr, g.wo, g.wl, g.kp.nt hk⟩
 | bad e => exact .bad e
theorem RunIs.lift {w w2 : World} {m b : Nat} {Z : St × Int} {W W' : World} {vb vr vo : Value} {cr du z : Int} (h : RunIs w2 m Z W vb cr du vr vo z) (hk : Keeps (fun i => i = b) W W') (hb : b < w2.heap.size) (hkw : Keeps (fun _ => False) w w2) (hwb : w.heap.size ≤ b) : RunIs w m Z W' vb cr du vr vo z := by
 cases h with
 | ok e g => exact .ok e (g.lift hk hb hkw hwb)
 | bad e => exact .bad e
structure RunEq (w : World) (v1 : Value) (c1 d1 : Int) (r1 o1 : Value) (z1 : Int) (v2 : Value) (c2 d2 : Int) (r2 o2 : Value) (z2 : Int) : Prop where
 ez : z1 = z2
 pos : ∀ W, Keeps (fun _ => False) w W → Calls Try.prog 16 #[.agg #[v1, .int .i64 c1, .int .i64 d1], .agg #[v2, .int .i64 c2, .int .i64 d2]] W fun e w' => e = .returned (.bool true) ∧ Keeps (fun _ => False) W w'
 rts : ∀ W, Keeps (fun _ => False) w W → Calls Try.prog 17 #[r1, r2] W fun e w' => e = .returned (.bool true) ∧ Keeps (fun _ => False) W w'
 pgs : ∀ W, Keeps (fun _ => False) w W → Calls Try.prog 18 #[o1, o2] W fun e w' => e = .returned (.bool true) ∧ Keeps (fun _ => False) W w'
theorem run_eq {m : Nat} {Z : St × Int} {wx wy wa w : World} {v1 v2 r1 r2 o1 o2 : Value} {c1 d1 z1 c2 d2 z2 : Int} (h1 : RunIs wx m Z wa v1 c1 d1 r1 o1 z1) (h2 : RunIs wy m Z w v2 c2 d2 r2 o2 z2) (hk : Keeps (fun _ => False) wa w) (hm : m ≤ 8) (hx : Z.2 = 0 → (∀ x ∈ Z.1.out, x.lines.length ≤ 8) ∧ Z.1.out.length ≤ 300) :
  RunEq w v1 c1 d1 r1 o1 z1 v2 c2 d2 r2 o2 z2 := by
 cases h1 with
 | @ok _ _ _ P1 e1 g1 =>
  cases h2 with
  | @ok _ _ _ P2 e2 g2 =>
   obtain ⟨x1, x2⟩ := hx e1
   have q1 := (Pages19.of g1 x1 x2).keeps hk
   have q2 := Pages19.of g2 x1 x2
   obtain ⟨a1, k1, s1, _⟩ := ownsRow_shape g1.bal
   obtain ⟨a2, k2, s2, _⟩ := ownsRow_shape g2.bal
   subst s1 s2
   refine ⟨rfl, fun W hW => samePos_any Z.1.p.bal m _ _ _ _ _ _ W g1.nb (Reads.of_owns ((g1.bal.of_keeps hk).of_keeps hW)) (Reads.of_owns (g2.bal.of_keeps hW)) (by omega), fun W hW => ?_, fun W hW => pages19_any P1 P2 _ _ W (q1.keeps hW) (q2.keeps hW) (g1.lp.trans g2.lp.symm)⟩
   refine plainI64_same Z.1.R _ _ W ?_ ?_ (by rw [g1.nr]; omega)
   ·rw [g1.nr]; exact Reads.of_owns ((g1.rts.of_keeps hk).of_keeps hW)
   ·rw [g1.nr]; exact Reads.of_owns (g2.rts.of_keeps hW)
  | bad e2 => exact absurd e1 e2
 | bad e1 =>
  cases h2 with
  | ok e2 g2 => exact absurd e2 e1
  | bad e2 =>
   have hp : ∀ W, Pages19 W (.slice none 0 0) [] := fun W => ⟨Reads.nil W 9, by simp, by simp, by decide⟩
   exact ⟨rfl, fun W _ => samePos_any [] 0 none none 0 0 0 0 W rfl (Reads.nil W 1) (Reads.nil W 1) (by decide), fun W _ => plainI64_same [] _ _ W (Reads.nil W 1) (Reads.nil W 1) (by decide), fun W _ => pages19_any [] [] _ _ W (hp W) (hp W) rfl⟩
set_option maxRecDepth 100000 in
set_option maxHeartbeats 6400000 in
theorem replayOrder_walk (w : World) (t : Tm) (adt : Option Addr) (ct : Nat) (htr : Reads w 2 (.slice adt t.trs.length ct) t.trs.length (t.trs.flatMap Tn.cells)) (htm : t.trs.length ≤ maxLen)
  (ad : Option Addr) (cap : Nat) (L : List Ev) (hr : Reads w 5 (.slice ad L.length cap) L.length (L.flatMap Ev.cells)) (_ : ∀ a ∈ L, a.wf) (hm : L.length ≤ maxLen) (d : Int) (_ : (Lit.int .i64 d).wf = true) :
  Calls Try.prog 3 #[t.val (.slice adt t.trs.length ct), .slice ad L.length cap, .int .i64 d] w fun e w' => e = .returned (.bool true) ∧ Below w.heap.size w w' := by
 obtain ⟨n, hn⟩ : ∃ n, t.trs.length = n := ⟨_, rfl⟩
 obtain ⟨N, hN⟩ : ∃ N, L.length = N := ⟨_, rfl⟩
 rw [hn] at htr htm
 rw [hN] at hr hm
 simp only [Tm.val]
 rw [hn, hN]
 have hmx : n ≤ 9223372036854775807 := htm
 obtain ⟨P, hP⟩ : ∃ P, playT t = P := ⟨_, rfl⟩
 obtain ⟨D, hD⟩ : ∃ D, uq d 300 = D := ⟨_, rfl⟩
 have hu0 : 0 ≤ IntKind.u64.wrap d := by rw [IntKind.wrap_u64]; omega
 have hDt : (IntKind.u64.wrap d).tmod 300 = D := by rw [Int.tmod_eq_emod_of_nonneg hu0]; exact hD
 have hDb := uq_bd d (m := 300) (by decide)
 rw [hD] at hDb
 obtain ⟨D0, D1⟩ := hDb
 have hpt := fun W (hW : Keeps (fun _ => False) w W) => playTerms_any t adt ct n W hn (htr.keeps hW (by simp)) hmx
 have hpo := playT_ok t
 rw [hP] at hpt hpo
 obtain ⟨pz, ps0, ps1⟩ := hpo
 obtain ⟨⟨pl0, pl1⟩, _, ⟨pc0, pc1⟩, _⟩ := tm_nums pz
 by_cases h60 : 60 < N
 ·have h60I : (60 : Int) < (N : Int) := by omega
  obtain ⟨Htr, Hr, Hn, HN, HP, HD, Hu0, Hpt⟩ := hid8 htr hr hn hN hP hD hu0 hpt; clear hpt hu0 hD hP hN hn hr htr
  go_enter Try.func3, Try.ntmps3
  go_wp2_with (go_at_call 11; (with_reducible refine (awake19_any _).mono ?_); rintro e w3 ⟨rfl, hk3⟩; have Hk3 := Lib.hid hk3; clear hk3)
  go_ret
  exact ⟨rfl, ((Keeps.alloc (S := fun _ => False) w _).nt Hk3.out).below (by simp) (Nat.le_refl _)⟩
 have h60I : ¬ (60 : Int) < (N : Int) := by omega
 obtain ⟨Htr, Hr, Hn, HN, HP, HD, Hu0, Hpt⟩ := hid8 htr hr hn hN hP hD hu0 hpt; clear hpt hu0 hD hP hN hn hr htr
 go_enter Try.func3, Try.ntmps3
 go_wp2_with (go_at_call 12; (with_reducible refine (Hpt.out _ (Keeps.alloc _ _)).mono ?_); rintro e w1 ⟨v1, rfl, hrd1, hk1, hfr1⟩; obtain ⟨av, cv, rfl, _⟩ := id hrd1; have Hfr1 := Lib.hid hfr1; clear hfr1; have hb1 := box_new hk1 (by simp); have Hrd1 := Lib.hid hrd1; have Hk1 := Lib.hid ((Keeps.alloc (S := fun _ => False) w _).nt hk1); have Hb1 := Lib.hid hb1; clear hrd1 hk1 hb1; refine haltW ?_)
 refine Lib.hid ?_
 obtain ⟨B, hBe⟩ : ∃ x, x = w.heap.size := ⟨_, rfl⟩
 rw [← hBe] at Hb1 ⊢
 have hwk1 := store7 Hb1.out (.int .i64 P.limit) (.slice av P.trs.length cv) (.int .i64 P.cyc) (.int .i64 P.due) (.int .i64 P.minFixed) (.int .i64 P.minPart) (.int .i64 P.start)
 obtain ⟨w2, hw2⟩ : ∃ x, x = ((((((w1.setCell ⟨B, 0, none⟩ (.int .i64 P.limit)).setCell ⟨B, 1, none⟩ (.slice av P.trs.length cv)).setCell ⟨B, 2, none⟩ (.int .i64 P.cyc)).setCell ⟨B, 3, none⟩ (.int .i64 P.due)).setCell ⟨B, 4, none⟩ (.int .i64 P.minFixed)).setCell ⟨B, 5, none⟩ (.int .i64 P.minPart)).setCell ⟨B, 6, none⟩ (.int .i64 P.start) := ⟨_, rfl⟩
 rw [← hw2] at hwk1
 obtain ⟨hb2, hk12⟩ := hwk1
 have hk2 : Keeps (fun _ => False) w w2 := Hk1.out.trans (hk12.mono fun i _ e => .inr (by have e' : i = B := e; omega))
 have hrd2 : Reads w2 2 (.slice av P.trs.length cv) P.trs.length (P.trs.flatMap Tn.cells) := Hrd1.out.keeps hk12 (fun g hg e => by
  have e' : g = B := e
  rcases Hfr1.out with h | h
  ·rw [h] at hg
   obtain ⟨g', e1, e2⟩ := Htr.out.lt (fun e => by
    have h2 := congrArg List.length e
    rw [flatMap_len t.trs, Hn.out] at h2
    simp only [Value.slice.injEq] at h
    simp at h2
    omega)
   rw [e1] at hg
   injection hg with hg
   omega
  ·have := h g hg
   simp only [World.size_alloc] at this
   omega)
 have s0 := cell_of_cells (Hb1.out) 0
 have s1 := cell_of_cells (Hb1.out) 1
 have s2 := cell_of_cells (Hb1.out) 2
 have s3 := cell_of_cells (Hb1.out) 3
 have s4 := cell_of_cells (Hb1.out) 4
 have s5 := cell_of_cells (Hb1.out) 5
 have s6 := cell_of_cells (Hb1.out) 6
 have sl := lt_of_block (Hb1.out)
 have f0 := free_of_cells (Hb1.out) 0
 have f1 := free_of_cells (Hb1.out) 1
 have f2 := free_of_cells (Hb1.out) 2
 have f3 := free_of_cells (Hb1.out) 3
 have f4 := free_of_cells (Hb1.out) 4
 have f5 := free_of_cells (Hb1.out) 5
 have f6 := free_of_cells (Hb1.out) 6
 obtain ⟨Hb2, Hk12, Hk2, Hrd2, HBe⟩ := hid5 hb2 hk12 hk2 hrd2 hBe; clear hBe hrd2 hk2 hk12 hb2
 go_upto_region 4 with fail
 rw [← hw2]
 clear hw2 s0 s1 s2 s3 s4 s5 s6 sl f0 f1 f2 f3 f4 f5 f6
 have hpe := playEvents_any P av cv P.trs.length L ad cap N D 40 w2 rfl Hrd2.out HN.out (Hr.out.keeps Hk2.out (by simp)) (by omega) (by omega) D0 (by omega) (by decide) ps0 ps1
 rw [show (((40 : Nat)) : Int) = 40 by rfl] at hpe
 obtain ⟨E, hE⟩ : ∃ E, playL P D 40 L [] = E := ⟨_, rfl⟩
 have hok := playL_ok (t := P) (days := D) (n := 40) D0 L [] (by simp) (by simp)
 rw [hE] at hpe hok
 obtain ⟨hok1, hok2⟩ := hok
 obtain ⟨o, ho⟩ : ∃ o, E.length = o := ⟨_, rfl⟩
 rw [ho] at hok2
 have hsub : P.start + D - P.start = D := by omega
 have t0 := cell_of_cells (Hb2.out) 0
 have t1 := cell_of_cells (Hb2.out) 1
 have t2 := cell_of_cells (Hb2.out) 2
 have t3 := cell_of_cells (Hb2.out) 3
 have t4 := cell_of_cells (Hb2.out) 4
 have t5 := cell_of_cells (Hb2.out) 5
 have t6 := cell_of_cells (Hb2.out) 6
 have tl := lt_of_block (Hb2.out)
 obtain ⟨Hpe, HE, Hok1, Ho⟩ := hid4 hpe hE hok1 ho; clear ho hok1 hE hpe
 go_wp2_with (go_at_call 13; (with_reducible refine Hpe.out.mono ?_); rintro e w3 ⟨v3, rfl, hat3⟩; have hr3 := hat3.1; rw [Ho.out] at hr3; obtain ⟨aE, cE, rfl, _⟩ := ownsRow_shape hr3; have Hr3 := Lib.hid hr3; have Hk23 := Lib.hid hat3.2.1; clear hr3 hat3; refine haltW ?_)
 refine Lib.hid ?_
 clear t0 t1 t2 t3 t4 t5 t6 tl
 have hk3 : Keeps (fun _ => False) w w3 := Hk2.out.nt Hk23.out
 have hb3 := box_old Hb2.out Hk23.out (by simp)
 have hrd3 := Hrd2.out.keeps Hk23.out (by simp)
 have hev3 : Reads w3 5 (.slice aE o cE) o (E.flatMap Ev.cells) := Reads.of_owns Hr3.out
 obtain ⟨Z, hZ⟩ : ∃ Z, walkR P E (P.start + D) = Z := ⟨_, rfl⟩
 have hZs : walkR P (sortL E) (P.start + D) = Z := by rw [walkR_sort (fun x hx => (Hok1.out x hx).1)]; exact hZ
 have hrun1 := repRun_any P av cv P.trs.length E aE cE o (P.start + D) w3 rfl hrd3 Ho.out hev3 (by omega) (by omega)
 rw [hZ] at hrun1
 have hso : (sortL E).length = o := by rw [sortL_length]; exact Ho.out
 have hrun2 := fun W a c (h : Keeps (fun _ => False) w3 W) (he : Reads W 5 (.slice a o c) o ((sortL E).flatMap Ev.cells)) => repRun_any P av cv P.trs.length (sortL E) a c o (P.start + D) W rfl (hrd3.keeps h (by simp)) hso he (by omega) (by omega)
 rw [hZs] at hrun2
 have hsrt := fun W (h : Keeps (fun _ => False) w3 W) => rdatSort_any E aE cE W (by rw [Ho.out]; exact hev3.keeps h (by simp)) (by rw [Ho.out]; omega)
 rw [Ho.out] at hsrt
 have hx : Z.2 = 0 → (∀ x ∈ Z.1.out, x.lines.length ≤ 8) ∧ Z.1.out.length ≤ 300 := fun h => by
  have := walkR_out hZ h
  exact ⟨fun x hx => by rw [this.1 x hx]; omega, this.2.1⟩
 have t0 := cell_of_cells (hb3) 0
 have t1 := cell_of_cells (hb3) 1
 have t2 := cell_of_cells (hb3) 2
 have t3 := cell_of_cells (hb3) 3
 have t4 := cell_of_cells (hb3) 4
 have t5 := cell_of_cells (hb3) 5
 have t6 := cell_of_cells (hb3) 6
 have tl := lt_of_block (hb3)
 obtain ⟨Hk3, Hb3, Hrd3, Hev3, Hrun1, Hrun2, Hsrt, Hso, HZ⟩ := hid9 hk3 hb3 hrd3 hev3 hrun1 hrun2 hsrt hso hZ; clear hZ hso hsrt hrun2 hrun1 hev3 hrd3 hb3 hk3; obtain ⟨HZs, Hx⟩ := hid2 hZs hx; clear hx hZs
 go_wp2_with fail
 refine Hrun1.out.mono ?_
 clear t0 t1 t2 t3 t4 t5 t6 tl
 intro e w4 hpo
 obtain ⟨vb1, cr1, du1, vr1, vo1, z1, rfl, hi1, hk4, a1, n1, c1, rfl⟩ := run_is hpo
 have hb4 := box_old Hb3.out hk4 (by simp)
 have t0 := cell_of_cells (hb4) 0
 have t1 := cell_of_cells (hb4) 1
 have t2 := cell_of_cells (hb4) 2
 have t3 := cell_of_cells (hb4) 3
 have t4 := cell_of_cells (hb4) 4
 have t5 := cell_of_cells (hb4) 5
 have t6 := cell_of_cells (hb4) 6
 have tl := lt_of_block (hb4)
 obtain ⟨Hpo, Hi1, Hk4, Hb4⟩ := hid4 hpo hi1 hk4 hb4; clear hb4 hk4 hi1 hpo
 go_upto_region 7 with fail
 clear t0 t1 t2 t3 t4 t5 t6 tl
 obtain ⟨W4, hW4⟩ : ∃ x, x = w4.alloc (.cells #[.slice a1 n1 c1, .int .i64 cr1, .int .i64 du1] 32) := ⟨_, rfl⟩
 have hk4W : Keeps (fun _ => False) w4 W4 := by rw [hW4]; exact Keeps.alloc _ _
 have hp4 : W4.heap[w4.heap.size]? = some (.cells #[.slice a1 n1 c1, .int .i64 cr1, .int .i64 du1] 32 (0, 0)) := by rw [hW4]; exact heap_alloc_new _ _
 obtain ⟨b8, hb8⟩ : ∃ x, x = w4.heap.size := ⟨_, rfl⟩
 rw [← hW4]
 rw [← hb8] at hp4 ⊢
 clear hW4
 have hb4W := box_old Hb4.out hk4W (by simp)
 have hS : tbS B P (.slice av P.trs.length cv) W4.drew := (tbS.of hb4W).keep (Keeps.drew _)
 obtain ⟨Hk4W, Hp4, Hb8, Hb4W, HS⟩ := hid5 hk4W hp4 hb8 hb4W hS; clear hS hb4W hb8 hp4 hk4W
 refine wp_region_mixw (tbS B P (.slice av P.trs.length cv)) (.take 0 (.take 1 (.take 3 (.fork 2 (.fork 4 (.take 5 (.take 6 (.take 7 (.take 8 (.take 9 (.move 10 (.move 11 (.take 12 (.take 13 (.take 14 .done)))))))))) 10 (.move 4 (.take 5 (.take 6 (.take 7 (.take 8 (.take 9 (.move 11 (.take 12 (.take 13 (.take 14 .done))))))))))) 10 (.move 2 (.move 4 (.take 5 (.take 6 (.take 7 (.take 8 (.take 9 (.move 11 (.take 12 (.take 13 (.take 14 .done))))))))))))))) (by kernel_rfl) (by kernel_rfl) ?_ ?_
 ·exact HS.out
 intro w5 hs5 hk5
 repeat (first
  | (refine mix_skip rfl (by rfl) ?_; try simp only [Act.put, List.setIfInBounds_toArray, List.set_cons_zero, List.set_cons_succ])
  | (refine mix_skipm rfl (by rfl) ?_; try simp only [Act.put, List.setIfInBounds_toArray, List.set_cons_zero, List.set_cons_succ])
  | (refine mix_take (v := ?_) rfl (by rfl) ?_ ?_; rotate_left; (· intro w' hSw; unfold tbS at hSw; go_simp; (try with_reducible rfl)); rotate_right; try simp only [Act.put, List.setIfInBounds_toArray, List.set_cons_zero, List.set_cons_succ]))
 have hk35 : Keeps (fun _ => False) w3 w5 := (Hk4.out.nt Hk4W.out).nt hk5
 have hk45 : Keeps (fun _ => False) W4 w5 := hk5
 obtain ⟨Hk35, Hk45⟩ := hid2 hk35 hk45; clear hk45 hk35
 refine mix_fork ?_ ?_ hs5
 ·skip
  refine mix_move rfl (fun K hK => ?_)
  go_simp
  go_at_call 15
  ((with_reducible refine (Hsrt.out _ (Hk35.out)).mono ?_); rintro e w6 ⟨v6, rfl, hr6, hf6⟩; dsimp only)
  rw [Hso.out] at hr6
  obtain ⟨a6, c6, rfl, _, _⟩ := ownsRow_shape hr6
  have hev6 : Reads w6 5 (.slice a6 o c6) o ((sortL E).flatMap Ev.cells) := Reads.of_owns hr6
  refine hK.out _ _ (by exact hs5.keep hf6.1) ?_
  clear hK K
  try simp only [Act.put, List.setIfInBounds_toArray, List.set_cons_zero, List.set_cons_succ]
  have hk36 := Hk35.out.nt hf6.1
  have hk46 := Hk45.out.nt hf6.1
  have hs6 := hs5.keep hf6.1
  clear hs5 hf6 hk5
  obtain ⟨Hk36, Hk46, Hev6, Hr6⟩ := hid4 hk36 hk46 hev6 hr6; clear hr6 hev6 hk46 hk36
  repeat (first
   | (refine mix_skip rfl (by rfl) ?_; try simp only [Act.put, List.setIfInBounds_toArray, List.set_cons_zero, List.set_cons_succ])
   | (refine mix_skipm rfl (by rfl) ?_; try simp only [Act.put, List.setIfInBounds_toArray, List.set_cons_zero, List.set_cons_succ])
   | (refine mix_take (v := ?_) rfl (by rfl) ?_ ?_; rotate_left; (· intro w' hSw; unfold tbS at hSw; go_simp; (try with_reducible rfl)); rotate_right; try simp only [Act.put, List.setIfInBounds_toArray, List.set_cons_zero, List.set_cons_succ]))
  refine mix_fork ?_ ?_ hs6
  ·skip
   refine mix_move rfl (fun K hK => ?_)
   go_simp
   go_at_call 14
   ((with_reducible refine (Hrun2.out _ a6 c6 (Hk36.out) (Hev6.out)).mono ?_); intro e w7 hpo2)
   obtain ⟨vb2, cr2, du2, vr2, vo2, z2, rfl, hi2, hk7, a2, n2, c2, rfl⟩ := run_is hpo2
   clear hpo2
   dsimp only
   refine hK.out _ _ (by exact hs6.keep hk7) ?_
   clear hK K
   try simp only [Act.put, List.setIfInBounds_toArray, List.set_cons_zero, List.set_cons_succ]
   have hs7 := hs6.keep hk7
   have hk37 := Hk36.out.nt hk7
   have hk47 := Hk46.out.nt hk7
   clear hs6 hk7
   obtain ⟨Hk37, Hk47, Hi2⟩ := hid3 hk37 hk47 hi2; clear hi2 hk47 hk37
   repeat (first
    | (refine mix_skip rfl (by rfl) ?_; try simp only [Act.put, List.setIfInBounds_toArray, List.set_cons_zero, List.set_cons_succ])
    | (refine mix_skipm rfl (by rfl) ?_; try simp only [Act.put, List.setIfInBounds_toArray, List.set_cons_zero, List.set_cons_succ])
    | (refine mix_take (v := ?_) rfl (by rfl) ?_ ?_; rotate_left; (· intro w' hSw; unfold tbS at hSw; go_simp; (try with_reducible rfl)); rotate_right; try simp only [Act.put, List.setIfInBounds_toArray, List.set_cons_zero, List.set_cons_succ]))
   refine mix_move rfl (fun K hK => ?_)
   go_simp
   refine hK.out _ _ (by exact hs7.keep (Keeps.alloc _ _)) ?_
   clear hK K
   try simp only [Act.put, List.setIfInBounds_toArray, List.set_cons_zero, List.set_cons_succ]
   obtain ⟨w8, hw8⟩ : ∃ x, x = (w7).alloc (.cells #[.slice none 0 0, .int .i64 0, .int .i64 0] 32) := ⟨_, rfl⟩
   have hkA : Keeps (fun _ => False) w7 w8 := by rw [hw8]; exact Keeps.alloc _ _
   obtain ⟨b12, hb12e⟩ : ∃ x, x = (w7).heap.size := ⟨_, rfl⟩
   have hz8 : w8.heap[b12]? = some (.cells #[.slice none 0 0, .int .i64 0, .int .i64 0] 32 (0, 0)) := by rw [hw8, hb12e]; exact heap_alloc_new _ _
   have hb12 : (w7).heap.size ≤ b12 := by rw [hb12e]; exact Nat.le_refl _
   have hs8 := (hs7).keep hkA
   have hk38 := (Hk37.out).nt hkA
   have hk48 := (Hk47.out).nt hkA
   rw [← hw8, ← hb12e]
   clear hw8 hb12e
   obtain ⟨HkA, Hz8, Hb12, Hk38, Hk48⟩ := hid5 hkA hz8 hb12 hk38 hk48; clear hk48 hk38 hb12 hz8 hkA
   have hi8 := fun W (hk : Keeps (fun i => i = b12) w8 W) => (Hi2.out.keep (HkA.out.trans (hk.mono fun i _ e => .inr (by have e' : i = b12 := e; have := Hb12.out; omega))))
   have Hi8 := Lib.hid hi8; clear hi8
   have hlz := lt_of_block (Hz8.out)
   have z0 := cell_of_cells (Hz8.out) 0
   have z1' := cell_of_cells (Hz8.out) 1
   have z2' := cell_of_cells (Hz8.out) 2
   have zf0 := free_of_cells (Hz8.out) 0
   have zf1 := free_of_cells (Hz8.out) 1
   have zf2 := free_of_cells (Hz8.out) 2
   obtain ⟨hbz, hkz⟩ := store3 (Hz8.out) (.slice a2 n2 c2) (.int .i64 cr2) (.int .i64 du2)
   have hb12g : W4.heap.size ≤ b12 := by have := Hb12.out; have := (Hk47.out).size; omega
   have hBb : ¬ B = b12 := by have := lt_of_block Hb4W.out; omega
   have hb8b : ¬ b8 = b12 := by have := lt_of_block Hp4.out; omega
   repeat (first
    | (refine mix_skip rfl (by rfl) ?_; try simp only [Act.put, List.setIfInBounds_toArray, List.set_cons_zero, List.set_cons_succ])
    | (refine mix_skipm rfl (by rfl) ?_; try simp only [Act.put, List.setIfInBounds_toArray, List.set_cons_zero, List.set_cons_succ])
    | (refine mix_take (v := ?_) rfl (by rfl) ?_ ?_; rotate_left; (· intro w' hSw; unfold tbS at hSw; go_simp; (try with_reducible rfl)); rotate_right; try simp only [Act.put, List.setIfInBounds_toArray, List.set_cons_zero, List.set_cons_succ]))
   refine mix_move rfl (fun K hK => ?_)
   go_simp
   refine hK.out _ _ (by exact hs8.keepS hkz hBb) ?_
   clear hK K
   try simp only [Act.put, List.setIfInBounds_toArray, List.set_cons_zero, List.set_cons_succ]
   repeat (first
    | (refine mix_skip rfl (by rfl) ?_; try simp only [Act.put, List.setIfInBounds_toArray, List.set_cons_zero, List.set_cons_succ])
    | (refine mix_skipm rfl (by rfl) ?_; try simp only [Act.put, List.setIfInBounds_toArray, List.set_cons_zero, List.set_cons_succ])
    | (refine mix_take (v := ?_) rfl (by rfl) ?_ ?_; rotate_left; (· intro w' hSw; unfold tbS at hSw; go_simp; (try with_reducible rfl)); rotate_right; try simp only [Act.put, List.setIfInBounds_toArray, List.set_cons_zero, List.set_cons_succ]))
   refine mix_done ?_
   obtain ⟨Wz, hWz⟩ : ∃ x, x = (((w8).setCell ⟨b12, 0, none⟩ (.slice a2 n2 c2)).setCell ⟨b12, 1, none⟩ (.int .i64 cr2)).setCell ⟨b12, 2, none⟩ (.int .i64 du2) := ⟨_, rfl⟩
   rw [← hWz] at hbz hkz ⊢
   clear hWz z0 z1' z2' zf0 zf1 zf2 hlz hs8
   have hpz := box_old (box_old Hp4.out (Hk48.out) (by simp)) hkz hb8b
   have hk4z : Keeps (fun _ => False) W4 Wz := (Hk48.out).trans (hkz.mono fun i _ e => .inr (by have e' : i = b12 := e; omega))
   have hiz := Hi8.out Wz hkz
   have h1z := Hi1.out.keep (Hk4W.out.nt hk4z)
   have hreq := run_eq h1z hiz (Keeps.refl _ _) pl1 Hx.out
   have hkw := ((Hk3.out.nt Hk4.out).nt Hk4W.out).nt hk4z
   obtain rfl := hreq.ez
   clear hb12g hBb
   obtain ⟨Hpz, Hbz, Hk4z, Hiz, H1z, Hreq, Hkw, Hkz⟩ := hid8 hpz hbz hk4z hiz h1z hreq hkw hkz; clear hkz hkw hreq h1z hiz hk4z hbz hpz
   go_wp2_with (go_at_call 11; (with_reducible refine (awake19_any _).mono ?_); rintro e wa ⟨rfl, hka⟩; have Hka := Lib.hid hka; clear hka; refine haltW ?_)
   refine Lib.hid ?_
   have hpa := box_old Hpz.out Hka.out (by simp)
   have hba := box_old Hbz.out Hka.out (by simp)
   have x0 := cell_of_cells hpa 0
   have x1 := cell_of_cells hpa 1
   have x2 := cell_of_cells hpa 2
   have xl := lt_of_block hpa
   have y0 := cell_of_cells hba 0
   have y1 := cell_of_cells hba 1
   have y2 := cell_of_cells hba 2
   have yl := lt_of_block hba
   obtain ⟨Hpa, Hba⟩ := hid2 hpa hba; clear hba hpa
   go_wp2_with (go_at_call 16; (with_reducible refine (Hreq.out.pos _ Hka.out).mono ?_); rintro e wb ⟨rfl, hkb⟩; have Hkb := Lib.hid (Hka.out.nt hkb); clear hkb; refine haltW ?_)
   refine Lib.hid ?_
   clear x0 x1 x2 xl y0 y1 y2 yl
   go_wp2_with (go_at_call 17; (with_reducible refine (Hreq.out.rts _ Hkb.out).mono ?_); rintro e wc ⟨rfl, hkc⟩; have Hkc := Lib.hid (Hkb.out.nt hkc); clear hkc; refine haltW ?_)
   refine Lib.hid ?_
   go_wp2_with (go_at_call 18; (with_reducible refine (Hreq.out.pgs _ Hkc.out).mono ?_); rintro e wd ⟨rfl, hkd⟩; have Hkd := Lib.hid (Hkc.out.nt hkd); clear hkd)
   go_ret
   exact ⟨rfl, (Hkw.out.nt Hkd.out).below (by simp) (Nat.le_refl _)⟩
  ·skip
   refine mix_move rfl (fun K hK => ?_)
   go_simp
   refine hK.out _ _ (by exact hs6.keep (Keeps.alloc _ _)) ?_
   clear hK K
   try simp only [Act.put, List.setIfInBounds_toArray, List.set_cons_zero, List.set_cons_succ]
   obtain ⟨w8, hw8⟩ : ∃ x, x = (w6).alloc (.cells #[.slice none 0 0, .int .i64 0, .int .i64 0] 32) := ⟨_, rfl⟩
   have hkA : Keeps (fun _ => False) w6 w8 := by rw [hw8]; exact Keeps.alloc _ _
   obtain ⟨b12, hb12e⟩ : ∃ x, x = (w6).heap.size := ⟨_, rfl⟩
   have hz8 : w8.heap[b12]? = some (.cells #[.slice none 0 0, .int .i64 0, .int .i64 0] 32 (0, 0)) := by rw [hw8, hb12e]; exact heap_alloc_new _ _
   have hb12 : (w6).heap.size ≤ b12 := by rw [hb12e]; exact Nat.le_refl _
   have hs8 := (hs6).keep hkA
   have hk38 := (Hk36.out).nt hkA
   have hk48 := (Hk46.out).nt hkA
   rw [← hw8, ← hb12e]
   clear hw8 hb12e
   obtain ⟨HkA, Hz8, Hb12, Hk38, Hk48⟩ := hid5 hkA hz8 hb12 hk38 hk48; clear hk48 hk38 hb12 hz8 hkA
   have hk36' := Hk38.out
   have hk46' := Hk48.out
   have hev6' := Hev6.out.keeps HkA.out (by simp)
   obtain ⟨Hk36', Hk46', Hev6'⟩ := hid3 hk36' hk46' hev6'; clear hev6' hk46' hk36'
   repeat (first
    | (refine mix_skip rfl (by rfl) ?_; try simp only [Act.put, List.setIfInBounds_toArray, List.set_cons_zero, List.set_cons_succ])
    | (refine mix_skipm rfl (by rfl) ?_; try simp only [Act.put, List.setIfInBounds_toArray, List.set_cons_zero, List.set_cons_succ])
    | (refine mix_take (v := ?_) rfl (by rfl) ?_ ?_; rotate_left; (· intro w' hSw; unfold tbS at hSw; go_simp; (try with_reducible rfl)); rotate_right; try simp only [Act.put, List.setIfInBounds_toArray, List.set_cons_zero, List.set_cons_succ]))
   refine mix_move rfl (fun K hK => ?_)
   go_simp
   go_at_call 14
   ((with_reducible refine (Hrun2.out _ a6 c6 (Hk36'.out) (Hev6'.out)).mono ?_); intro e w7 hpo2)
   obtain ⟨vb2, cr2, du2, vr2, vo2, z2, rfl, hi2, hk7, a2, n2, c2, rfl⟩ := run_is hpo2
   clear hpo2
   dsimp only
   refine hK.out _ _ (by exact hs8.keep hk7) ?_
   clear hK K
   try simp only [Act.put, List.setIfInBounds_toArray, List.set_cons_zero, List.set_cons_succ]
   have hb12s := lt_of_block Hz8.out
   have hz7 := box_old Hz8.out hk7 (by simp)
   have hk47 := Hk46'.out.nt hk7
   have hi8 := fun W (hk : Keeps (fun i => i = b12) w7 W) => hi2.lift hk hb12s Hk46'.out (by have := Hb12.out; have := Hk46.out.size; omega)
   replace hs8 := hs8.keep hk7
   clear hk7
   obtain ⟨Hi8, Hz7, Hk47, Hi2⟩ := hid4 hi8 hz7 hk47 hi2; clear hi2 hk47 hz7 hi8
   clear hb12s
   have hlz := lt_of_block (Hz7.out)
   have z0 := cell_of_cells (Hz7.out) 0
   have z1' := cell_of_cells (Hz7.out) 1
   have z2' := cell_of_cells (Hz7.out) 2
   have zf0 := free_of_cells (Hz7.out) 0
   have zf1 := free_of_cells (Hz7.out) 1
   have zf2 := free_of_cells (Hz7.out) 2
   obtain ⟨hbz, hkz⟩ := store3 (Hz7.out) (.slice a2 n2 c2) (.int .i64 cr2) (.int .i64 du2)
   have hb12g : W4.heap.size ≤ b12 := by have := Hb12.out; have := (Hk46.out).size; omega
   have hBb : ¬ B = b12 := by have := lt_of_block Hb4W.out; omega
   have hb8b : ¬ b8 = b12 := by have := lt_of_block Hp4.out; omega
   repeat (first
    | (refine mix_skip rfl (by rfl) ?_; try simp only [Act.put, List.setIfInBounds_toArray, List.set_cons_zero, List.set_cons_succ])
    | (refine mix_skipm rfl (by rfl) ?_; try simp only [Act.put, List.setIfInBounds_toArray, List.set_cons_zero, List.set_cons_succ])
    | (refine mix_take (v := ?_) rfl (by rfl) ?_ ?_; rotate_left; (· intro w' hSw; unfold tbS at hSw; go_simp; (try with_reducible rfl)); rotate_right; try simp only [Act.put, List.setIfInBounds_toArray, List.set_cons_zero, List.set_cons_succ]))
   refine mix_move rfl (fun K hK => ?_)
   go_simp
   refine hK.out _ _ (by exact hs8.keepS hkz hBb) ?_
   clear hK K
   try simp only [Act.put, List.setIfInBounds_toArray, List.set_cons_zero, List.set_cons_succ]
   repeat (first
    | (refine mix_skip rfl (by rfl) ?_; try simp only [Act.put, List.setIfInBounds_toArray, List.set_cons_zero, List.set_cons_succ])
    | (refine mix_skipm rfl (by rfl) ?_; try simp only [Act.put, List.setIfInBounds_toArray, List.set_cons_zero, List.set_cons_succ])
    | (refine mix_take (v := ?_) rfl (by rfl) ?_ ?_; rotate_left; (· intro w' hSw; unfold tbS at hSw; go_simp; (try with_reducible rfl)); rotate_right; try simp only [Act.put, List.setIfInBounds_toArray, List.set_cons_zero, List.set_cons_succ]))
   refine mix_done ?_
   obtain ⟨Wz, hWz⟩ : ∃ x, x = (((w7).setCell ⟨b12, 0, none⟩ (.slice a2 n2 c2)).setCell ⟨b12, 1, none⟩ (.int .i64 cr2)).setCell ⟨b12, 2, none⟩ (.int .i64 du2) := ⟨_, rfl⟩
   rw [← hWz] at hbz hkz ⊢
   clear hWz z0 z1' z2' zf0 zf1 zf2 hlz hs8
   have hpz := box_old (box_old Hp4.out (Hk47.out) (by simp)) hkz hb8b
   have hk4z : Keeps (fun _ => False) W4 Wz := (Hk47.out).trans (hkz.mono fun i _ e => .inr (by have e' : i = b12 := e; omega))
   have hiz := Hi8.out Wz hkz
   have h1z := Hi1.out.keep (Hk4W.out.nt hk4z)
   have hreq := run_eq h1z hiz (Keeps.refl _ _) pl1 Hx.out
   have hkw := ((Hk3.out.nt Hk4.out).nt Hk4W.out).nt hk4z
   obtain rfl := hreq.ez
   clear hb12g hBb
   obtain ⟨Hpz, Hbz, Hk4z, Hiz, H1z, Hreq, Hkw, Hkz⟩ := hid8 hpz hbz hk4z hiz h1z hreq hkw hkz; clear hkz hkw hreq h1z hiz hk4z hbz hpz
   go_wp2_with (go_at_call 11; (with_reducible refine (awake19_any _).mono ?_); rintro e wa ⟨rfl, hka⟩; have Hka := Lib.hid hka; clear hka; refine haltW ?_)
   refine Lib.hid ?_
   have hpa := box_old Hpz.out Hka.out (by simp)
   have hba := box_old Hbz.out Hka.out (by simp)
   have x0 := cell_of_cells hpa 0
   have x1 := cell_of_cells hpa 1
   have x2 := cell_of_cells hpa 2
   have xl := lt_of_block hpa
   have y0 := cell_of_cells hba 0
   have y1 := cell_of_cells hba 1
   have y2 := cell_of_cells hba 2
   have yl := lt_of_block hba
   obtain ⟨Hpa, Hba⟩ := hid2 hpa hba; clear hba hpa
   go_wp2_with (go_at_call 16; (with_reducible refine (Hreq.out.pos _ Hka.out).mono ?_); rintro e wb ⟨rfl, hkb⟩; have Hkb := Lib.hid (Hka.out.nt hkb); clear hkb; refine haltW ?_)
   refine Lib.hid ?_
   clear x0 x1 x2 xl y0 y1 y2 yl
   go_wp2_with (go_at_call 17; (with_reducible refine (Hreq.out.rts _ Hkb.out).mono ?_); rintro e wc ⟨rfl, hkc⟩; have Hkc := Lib.hid (Hkb.out.nt hkc); clear hkc; refine haltW ?_)
   refine Lib.hid ?_
   go_wp2_with (go_at_call 18; (with_reducible refine (Hreq.out.pgs _ Hkc.out).mono ?_); rintro e wd ⟨rfl, hkd⟩; have Hkd := Lib.hid (Hkc.out.nt hkd); clear hkd)
   go_ret
   exact ⟨rfl, (Hkw.out.nt Hkd.out).below (by simp) (Nat.le_refl _)⟩
 ·skip
  refine mix_move rfl (fun K hK => ?_)
  go_simp
  refine hK.out _ _ (by exact hs5.keep (Keeps.alloc _ _)) ?_
  clear hK K
  try simp only [Act.put, List.setIfInBounds_toArray, List.set_cons_zero, List.set_cons_succ]
  obtain ⟨w8, hw8⟩ : ∃ x, x = (w5).alloc (.cells #[.slice none 0 0, .int .i64 0, .int .i64 0] 32) := ⟨_, rfl⟩
  have hkA : Keeps (fun _ => False) w5 w8 := by rw [hw8]; exact Keeps.alloc _ _
  obtain ⟨b12, hb12e⟩ : ∃ x, x = (w5).heap.size := ⟨_, rfl⟩
  have hz8 : w8.heap[b12]? = some (.cells #[.slice none 0 0, .int .i64 0, .int .i64 0] 32 (0, 0)) := by rw [hw8, hb12e]; exact heap_alloc_new _ _
  have hb12 : (w5).heap.size ≤ b12 := by rw [hb12e]; exact Nat.le_refl _
  have hs8 := (hs5).keep hkA
  have hk38 := (Hk35.out).nt hkA
  have hk48 := (Hk45.out).nt hkA
  rw [← hw8, ← hb12e]
  clear hw8 hb12e
  obtain ⟨HkA, Hz8, Hb12, Hk38, Hk48⟩ := hid5 hkA hz8 hb12 hk38 hk48; clear hk48 hk38 hb12 hz8 hkA
  repeat (first
   | (refine mix_skip rfl (by rfl) ?_; try simp only [Act.put, List.setIfInBounds_toArray, List.set_cons_zero, List.set_cons_succ])
   | (refine mix_skipm rfl (by rfl) ?_; try simp only [Act.put, List.setIfInBounds_toArray, List.set_cons_zero, List.set_cons_succ])
   | (refine mix_take (v := ?_) rfl (by rfl) ?_ ?_; rotate_left; (· intro w' hSw; unfold tbS at hSw; go_simp; (try with_reducible rfl)); rotate_right; try simp only [Act.put, List.setIfInBounds_toArray, List.set_cons_zero, List.set_cons_succ]))
  refine mix_move rfl (fun K hK => ?_)
  go_simp
  go_at_call 15
  ((with_reducible refine (Hsrt.out _ (Hk38.out)).mono ?_); rintro e w6 ⟨v6, rfl, hr6, hf6⟩; dsimp only)
  rw [Hso.out] at hr6
  obtain ⟨a6, c6, rfl, _, _⟩ := ownsRow_shape hr6
  have hev6 : Reads w6 5 (.slice a6 o c6) o ((sortL E).flatMap Ev.cells) := Reads.of_owns hr6
  refine hK.out _ _ (by exact hs8.keep hf6.1) ?_
  clear hK K
  try simp only [Act.put, List.setIfInBounds_toArray, List.set_cons_zero, List.set_cons_succ]
  have hs6 := hs8.keep hf6.1
  have hz6 := box_old Hz8.out hf6.1 (by simp)
  have hk36 := Hk38.out.nt hf6.1
  have hk46 := Hk48.out.nt hf6.1
  have hl6 := hf6.1.size
  clear hs8 hf6 hk5
  obtain ⟨w8o, hw8o⟩ : ∃ x, x = w8 := ⟨_, rfl⟩
  obtain ⟨Hk36, Hk46, Hev6, Hr6, Hz6, Hl6, Hw8o⟩ := hid7 hk36 hk46 hev6 hr6 hz6 hl6 hw8o; clear hw8o hl6 hz6 hr6 hev6 hk46 hk36
  repeat (first
   | (refine mix_skip rfl (by rfl) ?_; try simp only [Act.put, List.setIfInBounds_toArray, List.set_cons_zero, List.set_cons_succ])
   | (refine mix_skipm rfl (by rfl) ?_; try simp only [Act.put, List.setIfInBounds_toArray, List.set_cons_zero, List.set_cons_succ])
   | (refine mix_take (v := ?_) rfl (by rfl) ?_ ?_; rotate_left; (· intro w' hSw; unfold tbS at hSw; go_simp; (try with_reducible rfl)); rotate_right; try simp only [Act.put, List.setIfInBounds_toArray, List.set_cons_zero, List.set_cons_succ]))
  refine mix_move rfl (fun K hK => ?_)
  go_simp
  go_at_call 14
  ((with_reducible refine (Hrun2.out _ a6 c6 (Hk36.out) (Hev6.out)).mono ?_); intro e w7 hpo2)
  obtain ⟨vb2, cr2, du2, vr2, vo2, z2, rfl, hi2, hk7, a2, n2, c2, rfl⟩ := run_is hpo2
  clear hpo2
  dsimp only
  refine hK.out _ _ (by exact hs6.keep hk7) ?_
  clear hK K
  try simp only [Act.put, List.setIfInBounds_toArray, List.set_cons_zero, List.set_cons_succ]
  have hs8 := hs6.keep hk7
  have hb12s := lt_of_block Hz6.out
  have hz7 := box_old Hz6.out hk7 (by simp)
  have hk37 := Hk36.out.nt hk7
  have hk47 := Hk46.out.nt hk7
  have hi8 := fun W (hk : Keeps (fun i => i = b12) w7 W) => hi2.lift hk hb12s Hk46.out (by have := Hb12.out; have := Hk45.out.size; omega)
  clear hs6 hk7
  obtain ⟨Hi8, Hz7, Hk47, Hi2⟩ := hid4 hi8 hz7 hk47 hi2; clear hi2 hk47 hz7 hi8
  clear hb12s
  have hlz := lt_of_block (Hz7.out)
  have z0 := cell_of_cells (Hz7.out) 0
  have z1' := cell_of_cells (Hz7.out) 1
  have z2' := cell_of_cells (Hz7.out) 2
  have zf0 := free_of_cells (Hz7.out) 0
  have zf1 := free_of_cells (Hz7.out) 1
  have zf2 := free_of_cells (Hz7.out) 2
  obtain ⟨hbz, hkz⟩ := store3 (Hz7.out) (.slice a2 n2 c2) (.int .i64 cr2) (.int .i64 du2)
  have hb12g : W4.heap.size ≤ b12 := by have := Hb12.out; have := (Hk45.out).size; omega
  have hBb : ¬ B = b12 := by have := lt_of_block Hb4W.out; omega
  have hb8b : ¬ b8 = b12 := by have := lt_of_block Hp4.out; omega
  repeat (first
   | (refine mix_skip rfl (by rfl) ?_; try simp only [Act.put, List.setIfInBounds_toArray, List.set_cons_zero, List.set_cons_succ])
   | (refine mix_skipm rfl (by rfl) ?_; try simp only [Act.put, List.setIfInBounds_toArray, List.set_cons_zero, List.set_cons_succ])
   | (refine mix_take (v := ?_) rfl (by rfl) ?_ ?_; rotate_left; (· intro w' hSw; unfold tbS at hSw; go_simp; (try with_reducible rfl)); rotate_right; try simp only [Act.put, List.setIfInBounds_toArray, List.set_cons_zero, List.set_cons_succ]))
  refine mix_move rfl (fun K hK => ?_)
  go_simp
  refine hK.out _ _ (by exact hs8.keepS hkz hBb) ?_
  clear hK K
  try simp only [Act.put, List.setIfInBounds_toArray, List.set_cons_zero, List.set_cons_succ]
  repeat (first
   | (refine mix_skip rfl (by rfl) ?_; try simp only [Act.put, List.setIfInBounds_toArray, List.set_cons_zero, List.set_cons_succ])
   | (refine mix_skipm rfl (by rfl) ?_; try simp only [Act.put, List.setIfInBounds_toArray, List.set_cons_zero, List.set_cons_succ])
   | (refine mix_take (v := ?_) rfl (by rfl) ?_ ?_; rotate_left; (· intro w' hSw; unfold tbS at hSw; go_simp; (try with_reducible rfl)); rotate_right; try simp only [Act.put, List.setIfInBounds_toArray, List.set_cons_zero, List.set_cons_succ]))
  refine mix_done ?_
  obtain ⟨Wz, hWz⟩ : ∃ x, x = (((w7).setCell ⟨b12, 0, none⟩ (.slice a2 n2 c2)).setCell ⟨b12, 1, none⟩ (.int .i64 cr2)).setCell ⟨b12, 2, none⟩ (.int .i64 du2) := ⟨_, rfl⟩
  rw [← hWz] at hbz hkz ⊢
  clear hWz z0 z1' z2' zf0 zf1 zf2 hlz hs8
  have hpz := box_old (box_old Hp4.out (Hk47.out) (by simp)) hkz hb8b
  have hk4z : Keeps (fun _ => False) W4 Wz := (Hk47.out).trans (hkz.mono fun i _ e => .inr (by have e' : i = b12 := e; omega))
  have hiz := Hi8.out Wz hkz
  have h1z := Hi1.out.keep (Hk4W.out.nt hk4z)
  have hreq := run_eq h1z hiz (Keeps.refl _ _) pl1 Hx.out
  have hkw := ((Hk3.out.nt Hk4.out).nt Hk4W.out).nt hk4z
  obtain rfl := hreq.ez
  clear hb12g hBb
  obtain ⟨Hpz, Hbz, Hk4z, Hiz, H1z, Hreq, Hkw, Hkz⟩ := hid8 hpz hbz hk4z hiz h1z hreq hkw hkz; clear hkz hkw hreq h1z hiz hk4z hbz hpz
  go_wp2_with (go_at_call 11; (with_reducible refine (awake19_any _).mono ?_); rintro e wa ⟨rfl, hka⟩; have Hka := Lib.hid hka; clear hka; refine haltW ?_)
  refine Lib.hid ?_
  have hpa := box_old Hpz.out Hka.out (by simp)
  have hba := box_old Hbz.out Hka.out (by simp)
  have x0 := cell_of_cells hpa 0
  have x1 := cell_of_cells hpa 1
  have x2 := cell_of_cells hpa 2
  have xl := lt_of_block hpa
  have y0 := cell_of_cells hba 0
  have y1 := cell_of_cells hba 1
  have y2 := cell_of_cells hba 2
  have yl := lt_of_block hba
  obtain ⟨Hpa, Hba⟩ := hid2 hpa hba; clear hba hpa
  go_wp2_with (go_at_call 16; (with_reducible refine (Hreq.out.pos _ Hka.out).mono ?_); rintro e wb ⟨rfl, hkb⟩; have Hkb := Lib.hid (Hka.out.nt hkb); clear hkb; refine haltW ?_)
  refine Lib.hid ?_
  clear x0 x1 x2 xl y0 y1 y2 yl
  go_wp2_with (go_at_call 17; (with_reducible refine (Hreq.out.rts _ Hkb.out).mono ?_); rintro e wc ⟨rfl, hkc⟩; have Hkc := Lib.hid (Hkb.out.nt hkc); clear hkc; refine haltW ?_)
  refine Lib.hid ?_
  go_wp2_with (go_at_call 18; (with_reducible refine (Hreq.out.pgs _ Hkc.out).mono ?_); rintro e wd ⟨rfl, hkd⟩; have Hkd := Lib.hid (Hkc.out.nt hkd); clear hkd)
  go_ret
  exact ⟨rfl, (Hkw.out.nt Hkd.out).below (by simp) (Nat.le_refl _)⟩
end Go.Proofs.Ythcmpcekmkioaaa
namespace Go.Proofs.Ythcmpcekmkioaaa.replayOrder
open Go.ChangeShapes Go.WideShapes Go.ChangeAt Go.RowKit Go.Deep
set_option maxRecDepth 100000 in
theorem lifted (os : Os) (started : os.Started) (H : Type) (enc : TypeId × Value → H) :
  ReturnsInHanded {} Try.checked os 3 .any (Rows.replayOrderSpec.pre6 enc Try.prog Try.f3 Rows.replayOrderRow.domain false) (Rows.replayOrderSpec.post enc Try.prog Try.f3 false true false false) := by
 refine returnsInHanded_of_change (C := Try.checked) own started (by kernel_rfl) Try.func3
  (ChangeSpec.witness6 (enc := enc) (C := Try.checked) false ⟨#[], #[.agg #[.int .i64 0, .slice none 0 0, .int .i64 0, .int .i64 0, .int .i64 0, .int .i64 0, .int .i64 0], .slice none 0 0, .int .i64 0], []⟩ 8 (by kernel_rfl) (by kernel_rfl) (by kernel_rfl) (by kernel_rfl)) ?_
 intro W base args ds gs before hval0 hW hcnd _
 have hval : ∀ (j : Nat) t v, Try.f3.params[j]? = some t → args[j]? = some v → Value.okWide Try.prog W .any base t v := hval0
 have hW' := hW
 obtain ⟨p, q, hA0, hV, rfl, hfz, hnd⟩ := hW
 have hA : DataW.TrodAll enc Try.prog W 0 (fun _ => true) true Try.f3.params.toList args.toList ds p := hA0
 rw [Try.params3] at hA hval
 obtain ⟨v0, vs0, d0, ds0, p0, q0, hargs, rfl, rfl, h0, r0⟩ := trodAll_cons hA
 obtain ⟨v1, vs1, d1, ds1, p1, q1, rfl, rfl, rfl, h1, r1⟩ := trodAll_cons r0
 obtain ⟨v2, vs2, d2, ds2, p2, q2, rfl, rfl, rfl, h2, r2⟩ := trodAll_cons r1
 obtain ⟨rfl, rfl, rfl⟩ := trodAll_nil r2
 obtain rfl : args = #[v0, v1, v2] := by cases args; simp_all
 obtain ⟨rfl, rfl⟩ := trodVars_none hV
 obtain ⟨cs0, rfl, hsz0⟩ := okWide_struct Try.underlying24 (hval 0 24 v0 rfl rfl)
 have k0 := h0
 have lt0 : ∀ x ∈ p0, x.block < W.heap.size := by obtain ⟨m, hm⟩ := k0; exact DataW.trod_lt m _ _ _ hm
 obtain ⟨a0, ad0, cap0, e0, hr0, hm0⟩ : ∃ (a : Tm) (ad : Option Addr) (cap : Nat), (Value.agg cs0).cells.toList = Tm.list a ad cap ∧ Reads W 2 (.slice ad a.trs.length cap) a.trs.length (a.trs.flatMap Tn.cells) ∧ a.trs.length ≤ maxLen := by obtain ⟨fuel, hf⟩ := h0; exact open_Tm _ _ _ hf
 have f0 : cs0 = (Tm.list a0 ad0 cap0).toArray := by rw [← e0]; simp [Value.cells]
 subst f0
 obtain ⟨ad1, len1, cap1, rfl⟩ := okWide_slice Try.underlying25 (hval 1 25 v1 rfl rfl)
 have k1 := h1
 have lt1 : ∀ x ∈ p1, x.block < W.heap.size := by obtain ⟨m, hm⟩ := k1; exact DataW.trod_lt m _ _ _ hm
 obtain ⟨L1, e1, hr1, hp1, hm1⟩ : ∃ L : List Ev, L.length = len1 ∧ Reads W 5 (.slice ad1 len1 cap1) L.length (L.flatMap Ev.cells) ∧ (∀ a ∈ L, a.wf) ∧ L.length ≤ maxLen := by
  obtain ⟨fuel, hf⟩ := h1
  exact open_reads (f := Ev.cells) (size := 5) Ev.cells_length (by decide) Try.underlying25 (by kernel_rfl) (fun n cs d hd => open_Ev n cs d hd) hf
 subst e1
 obtain ⟨a2, rfl, rfl, rfl, w2⟩ := open_int Try.underlying3 (hval 2 3 v2 rfl rfl) h2
 clear hA0 hval0
 refine (replayOrder_walk W a0 ad0 cap0 hr0 hm0 ad1 cap1 L1 hr1 hp1 hm1 a2 w2).mono fun e W' ⟨he, bel⟩ => ?_
 subst he
 exact ⟨_, rfl, _, _, _, [], _, [], hW', trodAll_mk1 (shut_bool Try.underlying4 _), (trodAll_cons_mk (Below.trod laidOut (by kernel_rfl) (of_decide_eq_true (by kernel_rfl)) k0 bel lt0) (trodAll_cons_mk (Below.trod laidOut (by kernel_rfl) (of_decide_eq_true (by kernel_rfl)) k1 bel lt1) (trodAll_cons_mk (shut_int Try.underlying3 w2) trodAll_mk0))), rfl, bel.frame _, fun h => by cases h⟩
theorem over : Rows.replayOrderRow.holds Try.pinned (OpenSpec.ofChange Rows.replayOrderSpec) :=
 OpenClaim.holds_of_wide 3 Try.f3 rfl rfl rfl rfl rfl rfl rfl ⟨rfl, rfl, rfl, rfl, rfl⟩ rfl rfl rfl rfl rfl (by kernel_rfl) Try.func3 (by kernel_rfl)
  (of_decide_eq_true (by kernel_rfl)) (by unfold Func.isWrapper; first | (rw [if_pos (by decide +kernel)]; kernel_rfl) | (rw [if_neg (by decide +kernel)]; exact ⟨rfl, rfl⟩))
  (fun os started H enc _ => lifted os started H enc)
theorem proved : Rows.ReplayOrderSaid := over
#print axioms proved
end Go.Proofs.Ythcmpcekmkioaaa.replayOrder
