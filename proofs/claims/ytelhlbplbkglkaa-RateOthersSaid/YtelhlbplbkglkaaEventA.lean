/- Events: what may be. -/
import Derived.Test.YtelhlbplbkglkaaTerms2
namespace Go.Proofs.Ytelhlbplbkglkaa
open Go.RowKit
/-- What is wrong with an event. -/
def evErr (t : Tm) (e : Ev) : Int :=
  if ¬ t.err = 0 then 6
  else if e.kind < 1 ∨ 6 < e.kind then 1
  else if (e.kind = 2 ∧ ¬ e.tranche = 0) ∨ (¬ e.kind = 2 ∧ (e.tranche < 1 ∨ (t.trs.length : Int) < e.tranche)) then 7
  else if (e.kind = 6 ∧ (e.amount < 0 ∨ 10000000 < e.amount)) ∨ (¬ e.kind = 6 ∧ (e.amount < 1 ∨ 1000000000000000 < e.amount)) then 8
  else if e.day < t.start ∨ 2932896 < e.day then 10
  else if ((e.kind = 4 ∨ e.kind = 5) ∧ (e.ref < 1 ∨ 2000 < e.ref)) ∨ (¬ (e.kind = 4 ∨ e.kind = 5) ∧ ¬ e.ref = 0) then 1
  else 0
theorem Tm.err_or (t : Tm) : t.err = 0 ∨ t.err = 6 := by unfold Tm.err; split <;> simp
set_option maxRecDepth 100000 in
set_option maxHeartbeats 400000 in
theorem evRef_any (k : Int) (w : World) (r : Bool) (hr : r = (decide (k = 4) || decide (k = 5))) : Calls Try.prog 56 #[.int .i64 k] w fun e w' => e = .returned (.bool r) ∧ w = w' := by
  by_cases h1 : k = 4
  · subst h1
    have h : r = true := by rw [hr]; rfl
    subst h
    clear hr
    go_enter Try.func56, Try.ntmps56
    go_wp2
    go_ret
    exact ⟨rfl, rfl⟩
  · by_cases h2 : k = 5
    · subst h2
      have h : r = true := by rw [hr]; rfl
      subst h
      clear hr
      go_enter Try.func56, Try.ntmps56
      go_wp2
      go_ret
      exact ⟨rfl, rfl⟩
    · have h : r = false := by rw [hr]; simp [h1, h2]
      subst h
      clear hr
      have h1' : (k == 4) = false := beq_eq_false_iff_ne.2 h1
      have h2' : (k == 5) = false := beq_eq_false_iff_ne.2 h2
      go_enter Try.func56, Try.ntmps56
      go_wp2
      go_ret
      exact ⟨rfl, rfl⟩
theorem tmRight_at (t : Tm) (v : Value) (w : World) {z : Int} (hz : t.err = z) (hr : Reads w 2 v t.trs.length (t.trs.flatMap Tn.cells)) (hl : t.trs.length ≤ 1000000) :
    Calls Try.prog 55 #[.agg #[.int .i64 t.limit, v, .int .i64 t.cyc, .int .i64 t.due, .int .i64 t.minFixed, .int .i64 t.minPart, .int .i64 t.start]] w fun e w' => e = .returned (.int .i64 z) ∧ Keeps (fun _ => False) w w' := by
  have hr' := hr
  obtain ⟨ad, c, rfl, _⟩ := hr'
  subst hz
  exact tmRight_any t ad c w hr hl
theorem rtmRight_at (t : Tm) (v : Value) (w : World) {z : Int} (hz : t.err = z) (hr : Reads w 2 v t.trs.length (t.trs.flatMap Tn.cells)) (hl : t.trs.length ≤ 1000000) :
    Calls Try.prog 43 #[.agg #[.int .i64 t.limit, v, .int .i64 t.cyc, .int .i64 t.due, .int .i64 t.minFixed, .int .i64 t.minPart, .int .i64 t.start]] w fun e w' => e = .returned (.int .i64 z) ∧ Keeps (fun _ => False) w w' := by
  have hr' := hr
  obtain ⟨ad, c, rfl, _⟩ := hr'
  subst hz
  exact rtmRight_any t ad c w hr hl
theorem haltE {p : Prop} (h : Hid p) : p := h.out
def evCells (B n : Nat) (ad : Option Addr) (cap : Nat) (st ki da tr am re : Int) (W : World) : Prop :=
  W.cell? ⟨B, 1, none⟩ = some (.slice ad n cap) ∧ W.cell? ⟨B, 6, none⟩ = some (.int .i64 st) ∧ W.cell? ⟨B + 1, 0, none⟩ = some (.int .i64 ki) ∧ W.cell? ⟨B + 1, 1, none⟩ = some (.int .i64 da) ∧ W.cell? ⟨B + 1, 2, none⟩ = some (.int .i64 tr) ∧ W.cell? ⟨B + 1, 3, none⟩ = some (.int .i64 am) ∧ W.cell? ⟨B + 1, 4, none⟩ = some (.int .i64 re)
theorem evCells_of (w : World) (n : Nat) (ad : Option Addr) (cap : Nat) (li cy du mf mp st ki da tr am re : Int) : ∀ W, Keeps (fun _ => False) ((w.alloc (.cells #[.int .i64 li, .slice ad n cap, .int .i64 cy, .int .i64 du, .int .i64 mf, .int .i64 mp, .int .i64 st] 27)).alloc (.cells #[.int .i64 ki, .int .i64 da, .int .i64 tr, .int .i64 am, .int .i64 re] 34)) W → evCells w.heap.size n ad cap st ki da tr am re W := by
  intro W hk
  have h1 := box_old (box_alloc (heap_alloc_new w (.cells #[.int .i64 li, .slice ad n cap, .int .i64 cy, .int .i64 du, .int .i64 mf, .int .i64 mp, .int .i64 st] 27)) (.cells #[.int .i64 ki, .int .i64 da, .int .i64 tr, .int .i64 am, .int .i64 re] 34)) hk (by simp)
  have h2 := box_new hk (by simp)
  rw [show (w.alloc (.cells #[.int .i64 li, .slice ad n cap, .int .i64 cy, .int .i64 du, .int .i64 mf, .int .i64 mp, .int .i64 st] 27)).heap.size = w.heap.size + 1 by simp] at h2
  exact ⟨cell_of_cells h1 1, cell_of_cells h1 6, cell_of_cells h2 0, cell_of_cells h2 1, cell_of_cells h2 2, cell_of_cells h2 3, cell_of_cells h2 4⟩
set_option maxRecDepth 100000 in
set_option maxHeartbeats 3200000 in
theorem evRight_go (li cy du mf mp st ki da tr am re : Int) (L : List Tn) (n : Nat) (ad : Option Addr) (cap : Nat) (w : World) (hr : Reads w 2 (.slice ad n cap) n (L.flatMap Tn.cells)) (hl : n ≤ 1000000) (hn : L.length = n) :
    Calls Try.prog 36 #[.agg #[.int .i64 li, .slice ad n cap, .int .i64 cy, .int .i64 du, .int .i64 mf, .int .i64 mp, .int .i64 st], .agg #[.int .i64 ki, .int .i64 da, .int .i64 tr, .int .i64 am, .int .i64 re]] w fun e w' => e = .returned (.int .i64 (evErr ⟨li, cy, du, mf, mp, st, L⟩ ⟨ki, da, tr, am, re⟩)) ∧ Keeps (fun _ => False) w w' := by
  have hc := evCells_of w n ad cap li cy du mf mp st ki da tr am re
  obtain ⟨z, hz⟩ : ∃ z, evErr ⟨li, cy, du, mf, mp, st, L⟩ ⟨ki, da, tr, am, re⟩ = z := ⟨_, rfl⟩
  rw [hz]
  obtain ⟨y, hy⟩ : ∃ y, Tm.err ⟨li, cy, du, mf, mp, st, L⟩ = y := ⟨_, rfl⟩
  have hy2 := Tm.err_or ⟨li, cy, du, mf, mp, st, L⟩
  rw [hy] at hy2
  unfold evErr at hz
  rw [hy, hn] at hz
  dsimp only at hz
  have Hr := Lib.hid hr; clear hr; have Hn := Lib.hid hn; clear hn; have Hc := Lib.hid hc; clear hc; have Hz := Lib.hid hz; clear hz; have Hy := Lib.hid hy; clear hy
  go_enter Try.func36, Try.ntmps36
  go_wp2
  refine wp_scope_ahead 0 rfl ?_
  go_wp2_with (go_at_call 55; ((with_reducible refine (tmRight_at ⟨li, cy, du, mf, mp, st, L⟩ (.slice ad n cap) _ Hy.out (by rw [Hn.out]; exact (Hr.out.keeps (S := fun _ => False) (by (repeat (first | exact Keeps.refl _ _ | exact Keeps.alloc _ _ | exact Keeps.drew _ | exact Keeps.drewN _ _ | refine Keeps.trans_drew ?_ | refine Keeps.trans_drewN ?_ | refine Keeps.trans_alloc ?_))) (by simp))) (by rw [Hn.out]; omega)).mono ?_); rintro e w1 ⟨rfl, hk1⟩; obtain ⟨c1, c6, d0, d1, d2, d3, d4⟩ := Hc.out _ hk1; have Hk1 := Lib.hid hk1; clear hk1; refine haltE ?_))
  refine Lib.hid ?_
  rcases hy2 with rfl | rfl
  · have hz := Hz.out
    clear Hz
    rw [if_neg (by decide)] at hz
    go_upto_region 4 with fail
    go_cut [17] from 10 to 17 (fun c wx => c = .bool (decide (ki < 1 ∨ 6 < ki)) ∧ w1 = wx)
    case first =>
      have Hz := Lib.hid hz; clear hz
      by_cases q6 : ki < 1
      · skip
        go_wp2_with fail
        go_meet
        exact ⟨congrArg Value.bool (decide_eq_true (by omega)).symm, rfl⟩
      · skip
        by_cases q8 : 6 < ki
        · skip
          go_wp2_with fail
          go_meet
          exact ⟨congrArg Value.bool (decide_eq_true (by omega)).symm, rfl⟩
        · skip
          go_wp2_with fail
          go_meet
          first | exact ⟨congrArg Value.bool (decide_eq_false (by omega)).symm, rfl⟩ | exact ⟨congrArg Value.bool ((show _ = false by simp; omega).trans (decide_eq_false (by omega)).symm), rfl⟩
    case rest =>
      obtain ⟨rfl, rfl⟩ := hcut
      by_cases c4 : ki < 1 ∨ 6 < ki
      · rw [if_pos c4] at hz
        rw [decide_eq_true c4]
        subst hz
        clear c4
        go_wp2_with fail
        go_step3
        go_wp2
        refine jump_goto ?_
        go_wp2
        rw [Exit.noGoto_ret]
        go_ret
        exact ⟨rfl, Keeps.nt (by (repeat (first | exact Keeps.refl _ _ | exact Keeps.alloc _ _ | exact Keeps.drew _ | exact Keeps.drewN _ _ | refine Keeps.trans_drew ?_ | refine Keeps.trans_drewN ?_ | refine Keeps.trans_alloc ?_))) Hk1.out⟩
      rw [if_neg c4] at hz
      rw [decide_eq_false c4]
      clear c4
      go_upto_region 6 with fail
      go_cut [43] from 18 to 43 (fun c wx => c = .bool (decide ((ki = 2 ∧ ¬ tr = 0) ∨ (¬ ki = 2 ∧ (tr < 1 ∨ (n : Int) < tr)))) ∧ w1 = wx)
      case first =>
        have Hz := Lib.hid hz; clear hz
        by_cases q8 : ki = 2
        · skip
          have p8 : (ki == 2) = true := by simp [q8]
          have p8' : (ki != 2) = false := by simp [q8]
          have Q8 := Lib.hid q8; clear q8
          by_cases q10 : tr = 0
          · skip
            have p10 : (tr == 0) = true := by simp [q10]
            have p10' : (tr != 0) = false := by simp [q10]
            have Q10 := Lib.hid q10; clear q10
            go_wp2_with fail
            go_meet
            have q8 := Q8.out
            have q10 := Q10.out
            first | exact ⟨congrArg Value.bool (decide_eq_false (by omega)).symm, rfl⟩ | exact ⟨congrArg Value.bool ((show _ = false by simp; omega).trans (decide_eq_false (by omega)).symm), rfl⟩
          · skip
            have p10 : (tr == 0) = false := by simp [q10]
            have p10' : (tr != 0) = true := by simp [q10]
            have Q10 := Lib.hid q10; clear q10
            go_wp2_with fail
            go_meet
            have q8 := Q8.out
            have q10 := Q10.out
            exact ⟨congrArg Value.bool (decide_eq_true (by omega)).symm, rfl⟩
        · skip
          have p8 : (ki == 2) = false := by simp [q8]
          have p8' : (ki != 2) = true := by simp [q8]
          have Q8 := Lib.hid q8; clear q8
          by_cases q10 : tr < 1
          · skip
            go_wp2_with fail
            go_meet
            have q8 := Q8.out
            exact ⟨congrArg Value.bool (decide_eq_true (by omega)).symm, rfl⟩
          · skip
            by_cases q12 : (n : Int) < tr
            · skip
              go_wp2_with fail
              go_meet
              have q8 := Q8.out
              exact ⟨congrArg Value.bool (decide_eq_true (by omega)).symm, rfl⟩
            · skip
              go_wp2_with fail
              go_meet
              have q8 := Q8.out
              first | exact ⟨congrArg Value.bool (decide_eq_false (by omega)).symm, rfl⟩ | exact ⟨congrArg Value.bool ((show _ = false by simp; omega).trans (decide_eq_false (by omega)).symm), rfl⟩
      case rest =>
        obtain ⟨rfl, rfl⟩ := hcut
        by_cases c6 : (ki = 2 ∧ ¬ tr = 0) ∨ (¬ ki = 2 ∧ (tr < 1 ∨ (n : Int) < tr))
        · rw [if_pos c6] at hz
          rw [decide_eq_true c6]
          subst hz
          clear c6
          go_wp2_with fail
          go_step3
          go_wp2
          refine jump_goto ?_
          go_wp2
          rw [Exit.noGoto_ret]
          go_ret
          exact ⟨rfl, Keeps.nt (by (repeat (first | exact Keeps.refl _ _ | exact Keeps.alloc _ _ | exact Keeps.drew _ | exact Keeps.drewN _ _ | refine Keeps.trans_drew ?_ | refine Keeps.trans_drewN ?_ | refine Keeps.trans_alloc ?_))) Hk1.out⟩
        rw [if_neg c6] at hz
        rw [decide_eq_false c6]
        clear c6
        go_upto_region 8 with fail
        go_cut [71] from 44 to 71 (fun c wx => c = .bool (decide ((ki = 6 ∧ (am < 0 ∨ 10000000 < am)) ∨ (¬ ki = 6 ∧ (am < 1 ∨ 1000000000000000 < am)))) ∧ w1 = wx)
        case first =>
          have Hz := Lib.hid hz; clear hz
          by_cases q10 : ki = 6
          · skip
            have p10 : (ki == 6) = true := by simp [q10]
            have p10' : (ki != 6) = false := by simp [q10]
            have Q10 := Lib.hid q10; clear q10
            by_cases q12 : am < 0
            · skip
              go_wp2_with fail
              go_meet
              have q10 := Q10.out
              exact ⟨congrArg Value.bool (decide_eq_true (by omega)).symm, rfl⟩
            · skip
              by_cases q14 : 10000000 < am
              · skip
                go_wp2_with fail
                go_meet
                have q10 := Q10.out
                exact ⟨congrArg Value.bool (decide_eq_true (by omega)).symm, rfl⟩
              · skip
                go_wp2_with fail
                go_meet
                have q10 := Q10.out
                first | exact ⟨congrArg Value.bool (decide_eq_false (by omega)).symm, rfl⟩ | exact ⟨congrArg Value.bool ((show _ = false by simp; omega).trans (decide_eq_false (by omega)).symm), rfl⟩
          · skip
            have p10 : (ki == 6) = false := by simp [q10]
            have p10' : (ki != 6) = true := by simp [q10]
            have Q10 := Lib.hid q10; clear q10
            by_cases q12 : am < 1
            · skip
              go_wp2_with fail
              go_meet
              have q10 := Q10.out
              exact ⟨congrArg Value.bool (decide_eq_true (by omega)).symm, rfl⟩
            · skip
              by_cases q14 : 1000000000000000 < am
              · skip
                go_wp2_with fail
                go_meet
                have q10 := Q10.out
                exact ⟨congrArg Value.bool (decide_eq_true (by omega)).symm, rfl⟩
              · skip
                go_wp2_with fail
                go_meet
                have q10 := Q10.out
                first | exact ⟨congrArg Value.bool (decide_eq_false (by omega)).symm, rfl⟩ | exact ⟨congrArg Value.bool ((show _ = false by simp; omega).trans (decide_eq_false (by omega)).symm), rfl⟩
        case rest =>
          obtain ⟨rfl, rfl⟩ := hcut
          by_cases c8 : (ki = 6 ∧ (am < 0 ∨ 10000000 < am)) ∨ (¬ ki = 6 ∧ (am < 1 ∨ 1000000000000000 < am))
          · rw [if_pos c8] at hz
            rw [decide_eq_true c8]
            subst hz
            clear c8
            go_wp2_with fail
            go_step3
            go_wp2
            refine jump_goto ?_
            go_wp2
            rw [Exit.noGoto_ret]
            go_ret
            exact ⟨rfl, Keeps.nt (by (repeat (first | exact Keeps.refl _ _ | exact Keeps.alloc _ _ | exact Keeps.drew _ | exact Keeps.drewN _ _ | refine Keeps.trans_drew ?_ | refine Keeps.trans_drewN ?_ | refine Keeps.trans_alloc ?_))) Hk1.out⟩
          rw [if_neg c8] at hz
          rw [decide_eq_false c8]
          clear c8
          go_upto_region 10 with fail
          go_cut [81] from 72 to 81 (fun c wx => c = .bool (decide (da < st ∨ 2932896 < da)) ∧ w1 = wx)
          case first =>
            have Hz := Lib.hid hz; clear hz
            by_cases q12 : da < st
            · skip
              go_wp2_with fail
              go_meet
              exact ⟨congrArg Value.bool (decide_eq_true (by omega)).symm, rfl⟩
            · skip
              by_cases q14 : 2932896 < da
              · skip
                go_wp2_with fail
                go_meet
                exact ⟨congrArg Value.bool (decide_eq_true (by omega)).symm, rfl⟩
              · skip
                go_wp2_with fail
                go_meet
                first | exact ⟨congrArg Value.bool (decide_eq_false (by omega)).symm, rfl⟩ | exact ⟨congrArg Value.bool ((show _ = false by simp; omega).trans (decide_eq_false (by omega)).symm), rfl⟩
          case rest =>
            obtain ⟨rfl, rfl⟩ := hcut
            by_cases c10 : da < st ∨ 2932896 < da
            · rw [if_pos c10] at hz
              rw [decide_eq_true c10]
              subst hz
              clear c10
              go_wp2_with fail
              go_step3
              go_wp2
              refine jump_goto ?_
              go_wp2
              rw [Exit.noGoto_ret]
              go_ret
              exact ⟨rfl, Keeps.nt (by (repeat (first | exact Keeps.refl _ _ | exact Keeps.alloc _ _ | exact Keeps.drew _ | exact Keeps.drewN _ _ | refine Keeps.trans_drew ?_ | refine Keeps.trans_drewN ?_ | refine Keeps.trans_alloc ?_))) Hk1.out⟩
            rw [if_neg c10] at hz
            rw [decide_eq_false c10]
            clear c10
            go_upto_region 12 with fail
            go_cut [105] from 82 to 105 (fun c wx => c = .bool (decide (((ki = 4 ∨ ki = 5) ∧ (re < 1 ∨ 2000 < re)) ∨ (¬ (ki = 4 ∨ ki = 5) ∧ ¬ re = 0))) ∧ w1 = wx)
            case first =>
              have Hz := Lib.hid hz; clear hz
              by_cases q14 : ki = 4
              · skip
                have p14 : (ki == 4) = true := by simp [q14]
                have p14' : (ki != 4) = false := by simp [q14]
                have Q14 := Lib.hid q14; clear q14
                by_cases q16 : re < 1
                · skip
                  have hr : true = (decide (ki = 4) || decide (ki = 5)) := by simp [Q14.out]
                  have HR := Lib.hid hr; clear hr
                  go_wp2_with (go_at_call 56; ((with_reducible refine (evRef_any ki _ true HR.out).mono ?_); rintro e w2 ⟨rfl, rfl⟩))
                  go_meet
                  have q14 := Q14.out
                  exact ⟨congrArg Value.bool (decide_eq_true (by omega)).symm, rfl⟩
                · skip
                  by_cases q18 : 2000 < re
                  · skip
                    have hr : true = (decide (ki = 4) || decide (ki = 5)) := by simp [Q14.out]
                    have HR := Lib.hid hr; clear hr
                    go_wp2_with (go_at_call 56; ((with_reducible refine (evRef_any ki _ true HR.out).mono ?_); rintro e w2 ⟨rfl, rfl⟩))
                    go_meet
                    have q14 := Q14.out
                    exact ⟨congrArg Value.bool (decide_eq_true (by omega)).symm, rfl⟩
                  · skip
                    have hr : true = (decide (ki = 4) || decide (ki = 5)) := by simp [Q14.out]
                    have HR := Lib.hid hr; clear hr
                    go_wp2_with (go_at_call 56; ((with_reducible refine (evRef_any ki _ true HR.out).mono ?_); rintro e w2 ⟨rfl, rfl⟩))
                    go_meet
                    have q14 := Q14.out
                    first | exact ⟨congrArg Value.bool (decide_eq_false (by omega)).symm, rfl⟩ | exact ⟨congrArg Value.bool ((show _ = false by simp; omega).trans (decide_eq_false (by omega)).symm), rfl⟩
              · skip
                have p14 : (ki == 4) = false := by simp [q14]
                have p14' : (ki != 4) = true := by simp [q14]
                have Q14 := Lib.hid q14; clear q14
                by_cases q16 : ki = 5
                · skip
                  have p16 : (ki == 5) = true := by simp [q16]
                  have p16' : (ki != 5) = false := by simp [q16]
                  have Q16 := Lib.hid q16; clear q16
                  by_cases q18 : re < 1
                  · skip
                    have hr : true = (decide (ki = 4) || decide (ki = 5)) := by simp [Q14.out, Q16.out]
                    have HR := Lib.hid hr; clear hr
                    go_wp2_with (go_at_call 56; ((with_reducible refine (evRef_any ki _ true HR.out).mono ?_); rintro e w2 ⟨rfl, rfl⟩))
                    go_meet
                    have q14 := Q14.out
                    have q16 := Q16.out
                    exact ⟨congrArg Value.bool (decide_eq_true (by omega)).symm, rfl⟩
                  · skip
                    by_cases q20 : 2000 < re
                    · skip
                      have hr : true = (decide (ki = 4) || decide (ki = 5)) := by simp [Q14.out, Q16.out]
                      have HR := Lib.hid hr; clear hr
                      go_wp2_with (go_at_call 56; ((with_reducible refine (evRef_any ki _ true HR.out).mono ?_); rintro e w2 ⟨rfl, rfl⟩))
                      go_meet
                      have q14 := Q14.out
                      have q16 := Q16.out
                      exact ⟨congrArg Value.bool (decide_eq_true (by omega)).symm, rfl⟩
                    · skip
                      have hr : true = (decide (ki = 4) || decide (ki = 5)) := by simp [Q14.out, Q16.out]
                      have HR := Lib.hid hr; clear hr
                      go_wp2_with (go_at_call 56; ((with_reducible refine (evRef_any ki _ true HR.out).mono ?_); rintro e w2 ⟨rfl, rfl⟩))
                      go_meet
                      have q14 := Q14.out
                      have q16 := Q16.out
                      first | exact ⟨congrArg Value.bool (decide_eq_false (by omega)).symm, rfl⟩ | exact ⟨congrArg Value.bool ((show _ = false by simp; omega).trans (decide_eq_false (by omega)).symm), rfl⟩
                · skip
                  have p16 : (ki == 5) = false := by simp [q16]
                  have p16' : (ki != 5) = true := by simp [q16]
                  have Q16 := Lib.hid q16; clear q16
                  by_cases q18 : re = 0
                  · skip
                    have p18 : (re == 0) = true := by simp [q18]
                    have p18' : (re != 0) = false := by simp [q18]
                    have Q18 := Lib.hid q18; clear q18
                    have hr : false = (decide (ki = 4) || decide (ki = 5)) := by simp [Q14.out, Q16.out, Q18.out]
                    have HR := Lib.hid hr; clear hr
                    go_wp2_with (go_at_call 56; ((with_reducible refine (evRef_any ki _ false HR.out).mono ?_); rintro e w2 ⟨rfl, rfl⟩))
                    go_meet
                    have q14 := Q14.out
                    have q16 := Q16.out
                    have q18 := Q18.out
                    first | exact ⟨congrArg Value.bool (decide_eq_false (by omega)).symm, rfl⟩ | exact ⟨congrArg Value.bool ((show _ = false by simp; omega).trans (decide_eq_false (by omega)).symm), rfl⟩
                  · skip
                    have p18 : (re == 0) = false := by simp [q18]
                    have p18' : (re != 0) = true := by simp [q18]
                    have Q18 := Lib.hid q18; clear q18
                    have hr : false = (decide (ki = 4) || decide (ki = 5)) := by simp [Q14.out, Q16.out, Q18.out]
                    have HR := Lib.hid hr; clear hr
                    go_wp2_with (go_at_call 56; ((with_reducible refine (evRef_any ki _ false HR.out).mono ?_); rintro e w2 ⟨rfl, rfl⟩))
                    go_meet
                    have q14 := Q14.out
                    have q16 := Q16.out
                    have q18 := Q18.out
                    exact ⟨congrArg Value.bool (decide_eq_true (by omega)).symm, rfl⟩
            case rest =>
              obtain ⟨rfl, rfl⟩ := hcut
              by_cases c12 : ((ki = 4 ∨ ki = 5) ∧ (re < 1 ∨ 2000 < re)) ∨ (¬ (ki = 4 ∨ ki = 5) ∧ ¬ re = 0)
              · rw [if_pos c12] at hz
                rw [decide_eq_true c12]
                subst hz
                clear c12
                go_wp2_with fail
                go_step3
                go_wp2
                refine jump_goto ?_
                go_wp2
                rw [Exit.noGoto_ret]
                go_ret
                exact ⟨rfl, Keeps.nt (by (repeat (first | exact Keeps.refl _ _ | exact Keeps.alloc _ _ | exact Keeps.drew _ | exact Keeps.drewN _ _ | refine Keeps.trans_drew ?_ | refine Keeps.trans_drewN ?_ | refine Keeps.trans_alloc ?_))) Hk1.out⟩
              rw [if_neg c12] at hz
              rw [decide_eq_false c12]
              clear c12
              subst hz
              go_wp2_with fail
              go_step3
              go_wp2
              refine jump_ret ?_
              go_ret
              exact ⟨rfl, Keeps.nt (by (repeat (first | exact Keeps.refl _ _ | exact Keeps.alloc _ _ | exact Keeps.drew _ | exact Keeps.drewN _ _ | refine Keeps.trans_drew ?_ | refine Keeps.trans_drewN ?_ | refine Keeps.trans_alloc ?_))) Hk1.out⟩
  · go_wp2_with fail
    go_step3
    go_wp2
    refine jump_goto ?_
    go_wp2
    rw [Exit.noGoto_ret]
    go_ret
    exact ⟨by rw [← Hz.out]; rfl, Keeps.nt (by (repeat (first | exact Keeps.refl _ _ | exact Keeps.alloc _ _ | exact Keeps.drew _ | exact Keeps.drewN _ _ | refine Keeps.trans_drew ?_ | refine Keeps.trans_drewN ?_ | refine Keeps.trans_alloc ?_))) Hk1.out⟩
theorem evRight_any (t : Tm) (ev : Ev) (ad : Option Addr) (cap : Nat) (w : World) (hr : Reads w 2 (.slice ad t.trs.length cap) t.trs.length (t.trs.flatMap Tn.cells)) (hl : t.trs.length ≤ 1000000) :
    Calls Try.prog 36 #[t.val (.slice ad t.trs.length cap), ev.agg] w fun e w' => e = .returned (.int .i64 (evErr t ev)) ∧ Keeps (fun _ => False) w w' := evRight_go _ _ _ _ _ _ _ _ _ _ _ _ _ ad cap w hr hl rfl
end Go.Proofs.Ytelhlbplbkglkaa
