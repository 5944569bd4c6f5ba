/- Events, as the document has them. -/
import Derived.Test.YtelhlbplbkglkaaEventA
namespace Go.Proofs.Ytelhlbplbkglkaa
open Go.RowKit
set_option maxRecDepth 100000 in
set_option maxHeartbeats 3200000 in
theorem revRight_go (li cy du mf mp st ki da tr am re : Int) (L : List Tn) (n : Nat) (ad : Option Addr) (cap : Nat) (w : World) (hr : Reads w 2 (.slice ad n cap) n (L.flatMap Tn.cells)) (hl : n ≤ 1000000) (hn : L.length = n) :
    Calls Try.prog 17 #[.agg #[.int .i64 li, .slice ad n cap, .int .i64 cy, .int .i64 du, .int .i64 mf, .int .i64 mp, .int .i64 st], .agg #[.int .i64 ki, .int .i64 da, .int .i64 tr, .int .i64 am, .int .i64 re]] w fun e w' => e = .returned (.int .i64 (evErr ⟨li, cy, du, mf, mp, st, L⟩ ⟨ki, da, tr, am, re⟩)) ∧ Keeps (fun _ => False) w w' := by
  have hc := evCells_of w n ad cap li cy du mf mp st ki da tr am re
  obtain ⟨z, hz⟩ : ∃ z, evErr ⟨li, cy, du, mf, mp, st, L⟩ ⟨ki, da, tr, am, re⟩ = z := ⟨_, rfl⟩
  rw [hz]
  obtain ⟨y, hy⟩ : ∃ y, Tm.err ⟨li, cy, du, mf, mp, st, L⟩ = y := ⟨_, rfl⟩
  have hy2 := Tm.err_or ⟨li, cy, du, mf, mp, st, L⟩
  rw [hy] at hy2
  unfold evErr at hz
  rw [hy, hn] at hz
  dsimp only at hz
  have Hr := Lib.hid hr; clear hr; have Hn := Lib.hid hn; clear hn; have Hc := Lib.hid hc; clear hc; have Hz := Lib.hid hz; clear hz; have Hy := Lib.hid hy; clear hy
  go_enter Try.func17, Try.ntmps17
  go_wp2_with (go_at_call 43; ((with_reducible refine (rtmRight_at ⟨li, cy, du, mf, mp, st, L⟩ (.slice ad n cap) _ Hy.out (by rw [Hn.out]; exact (Hr.out.keeps (S := fun _ => False) (by (repeat (first | exact Keeps.refl _ _ | exact Keeps.alloc _ _ | exact Keeps.drew _ | exact Keeps.drewN _ _ | refine Keeps.trans_drew ?_ | refine Keeps.trans_drewN ?_ | refine Keeps.trans_alloc ?_))) (by simp))) (by rw [Hn.out]; omega)).mono ?_); rintro e w1 ⟨rfl, hk1⟩; obtain ⟨c1, c6, d0, d1, d2, d3, d4⟩ := Hc.out _ hk1; have Hk1 := Lib.hid hk1; clear hk1; refine haltE ?_))
  refine Lib.hid ?_
  rcases hy2 with rfl | rfl
  · have hz := Hz.out
    clear Hz
    rw [if_neg (by decide)] at hz
    go_upto_region 3 with fail
    go_cut [18] from 11 to 18 (fun s18 wx => s18 = .bool (decide (ki < 1 ∨ 6 < ki)) ∧ w1 = wx)
    case first =>
      have Hz := Lib.hid hz; clear hz
      by_cases q6 : ki < 1
      · skip
        go_wp2_with fail
        go_meet
        exact ⟨congrArg Value.bool (decide_eq_true (by omega)).symm, rfl⟩
      · skip
        by_cases q8 : 6 < ki
        · skip
          go_wp2_with fail
          go_meet
          exact ⟨congrArg Value.bool (decide_eq_true (by omega)).symm, rfl⟩
        · skip
          go_wp2_with fail
          go_meet
          first | exact ⟨congrArg Value.bool (decide_eq_false (by omega)).symm, rfl⟩ | exact ⟨congrArg Value.bool ((show _ = false by simp; omega).trans (decide_eq_false (by omega)).symm), rfl⟩
    case rest =>
      obtain ⟨rfl, rfl⟩ := hcut
      by_cases c3 : ki < 1 ∨ 6 < ki
      · rw [if_pos c3] at hz
        rw [decide_eq_true c3]
        clear c3
        subst hz
        go_wp2_with fail
        go_ret
        exact ⟨rfl, Keeps.nt (by (repeat (first | exact Keeps.refl _ _ | exact Keeps.alloc _ _ | exact Keeps.drew _ | exact Keeps.drewN _ _ | refine Keeps.trans_drew ?_ | refine Keeps.trans_drewN ?_ | refine Keeps.trans_alloc ?_))) Hk1.out⟩
      rw [if_neg c3] at hz
      rw [decide_eq_false c3]
      clear c3
      go_upto_region 5 with fail
      go_cut [44] from 19 to 44 (fun s44 wx => s44 = .bool (decide ((ki = 2 ∧ ¬ tr = 0) ∨ (¬ ki = 2 ∧ (tr < 1 ∨ (n : Int) < tr)))) ∧ w1 = wx)
      case first =>
        have Hz := Lib.hid hz; clear hz
        by_cases q8 : ki = 2
        · skip
          have p8 : (ki == 2) = true := by simp [q8]
          have p8' : (ki != 2) = false := by simp [q8]
          have Q8 := Lib.hid q8; clear q8
          by_cases q10 : tr = 0
          · skip
            have p10 : (tr == 0) = true := by simp [q10]
            have p10' : (tr != 0) = false := by simp [q10]
            have Q10 := Lib.hid q10; clear q10
            go_wp2_with fail
            go_meet
            have q8 := Q8.out
            have q10 := Q10.out
            first | exact ⟨congrArg Value.bool (decide_eq_false (by omega)).symm, rfl⟩ | exact ⟨congrArg Value.bool ((show _ = false by simp; omega).trans (decide_eq_false (by omega)).symm), rfl⟩
          · skip
            have p10 : (tr == 0) = false := by simp [q10]
            have p10' : (tr != 0) = true := by simp [q10]
            have Q10 := Lib.hid q10; clear q10
            go_wp2_with fail
            go_meet
            have q8 := Q8.out
            have q10 := Q10.out
            exact ⟨congrArg Value.bool (decide_eq_true (by omega)).symm, rfl⟩
        · skip
          have p8 : (ki == 2) = false := by simp [q8]
          have p8' : (ki != 2) = true := by simp [q8]
          have Q8 := Lib.hid q8; clear q8
          by_cases q10 : tr < 1
          · skip
            go_wp2_with fail
            go_meet
            have q8 := Q8.out
            exact ⟨congrArg Value.bool (decide_eq_true (by omega)).symm, rfl⟩
          · skip
            by_cases q12 : (n : Int) < tr
            · skip
              go_wp2_with fail
              go_meet
              have q8 := Q8.out
              exact ⟨congrArg Value.bool (decide_eq_true (by omega)).symm, rfl⟩
            · skip
              go_wp2_with fail
              go_meet
              have q8 := Q8.out
              first | exact ⟨congrArg Value.bool (decide_eq_false (by omega)).symm, rfl⟩ | exact ⟨congrArg Value.bool ((show _ = false by simp; omega).trans (decide_eq_false (by omega)).symm), rfl⟩
      case rest =>
        obtain ⟨rfl, rfl⟩ := hcut
        by_cases c5 : (ki = 2 ∧ ¬ tr = 0) ∨ (¬ ki = 2 ∧ (tr < 1 ∨ (n : Int) < tr))
        · rw [if_pos c5] at hz
          rw [decide_eq_true c5]
          clear c5
          subst hz
          go_wp2_with fail
          go_ret
          exact ⟨rfl, Keeps.nt (by (repeat (first | exact Keeps.refl _ _ | exact Keeps.alloc _ _ | exact Keeps.drew _ | exact Keeps.drewN _ _ | refine Keeps.trans_drew ?_ | refine Keeps.trans_drewN ?_ | refine Keeps.trans_alloc ?_))) Hk1.out⟩
        rw [if_neg c5] at hz
        rw [decide_eq_false c5]
        clear c5
        go_upto_if 47 with fail
        go_cut [5, 6] from 45 to 47 (fun s5 s6 wx => ∃ lo hi, s5 = .int .i64 lo ∧ s6 = .int .i64 hi ∧ Hid ((ki = 6 ∧ lo = 0 ∧ hi = 10000000) ∨ (¬ ki = 6 ∧ lo = 1 ∧ hi = 1000000000000000)) ∧ w1 = wx)
        case first =>
          have Hz := Lib.hid hz; clear hz
          by_cases q : ki = 6
          · have p : (ki == 6) = true := by simp [q]
            have Q := Lib.hid q; clear q
            go_wp2_with fail
            go_meet
            exact ⟨_, _, rfl, rfl, Lib.hid (.inl ⟨Q.out, rfl, rfl⟩), rfl⟩
          · have p : (ki == 6) = false := by simp [q]
            have Q := Lib.hid q; clear q
            go_wp2_with fail
            go_meet
            exact ⟨_, _, rfl, rfl, Lib.hid (.inr ⟨Q.out, rfl, rfl⟩), rfl⟩
        case rest =>
          obtain ⟨lo, hi, rfl, rfl, Hlh, rfl⟩ := hcut
          go_upto_region 10 with fail
          go_cut [57] from 48 to 57 (fun s57 wx => s57 = .bool (decide (am < lo ∨ hi < am)) ∧ w1 = wx)
          case first =>
            have Hz := Lib.hid hz; clear hz
            by_cases q12 : am < lo
            · skip
              go_wp2_with fail
              go_meet
              exact ⟨congrArg Value.bool (decide_eq_true (by omega)).symm, rfl⟩
            · skip
              by_cases q14 : hi < am
              · skip
                go_wp2_with fail
                go_meet
                exact ⟨congrArg Value.bool (decide_eq_true (by omega)).symm, rfl⟩
              · skip
                go_wp2_with fail
                go_meet
                first | exact ⟨congrArg Value.bool (decide_eq_false (by omega)).symm, rfl⟩ | exact ⟨congrArg Value.bool ((show _ = false by simp; omega).trans (decide_eq_false (by omega)).symm), rfl⟩
          case rest =>
            obtain ⟨rfl, rfl⟩ := hcut
            by_cases c10 : am < lo ∨ hi < am
            · rw [if_pos (show (ki = 6 ∧ (am < 0 ∨ 10000000 < am)) ∨ (¬ ki = 6 ∧ (am < 1 ∨ 1000000000000000 < am)) by rcases Hlh.out with ⟨h1, h2, h3⟩ | ⟨h1, h2, h3⟩ <;> omega)] at hz
              rw [decide_eq_true c10]
              clear c10
              subst hz
              go_wp2_with fail
              go_ret
              exact ⟨rfl, Keeps.nt (by (repeat (first | exact Keeps.refl _ _ | exact Keeps.alloc _ _ | exact Keeps.drew _ | exact Keeps.drewN _ _ | refine Keeps.trans_drew ?_ | refine Keeps.trans_drewN ?_ | refine Keeps.trans_alloc ?_))) Hk1.out⟩
            rw [if_neg (show ¬ ((ki = 6 ∧ (am < 0 ∨ 10000000 < am)) ∨ (¬ ki = 6 ∧ (am < 1 ∨ 1000000000000000 < am))) by rcases Hlh.out with ⟨h1, h2, h3⟩ | ⟨h1, h2, h3⟩ <;> omega)] at hz
            rw [decide_eq_false c10]
            clear c10
            go_upto_region 12 with fail
            go_cut [67] from 58 to 67 (fun s67 wx => s67 = .bool (decide (da < st ∨ 2932896 < da)) ∧ w1 = wx)
            case first =>
              have Hz := Lib.hid hz; clear hz
              by_cases q14 : da < st
              · skip
                go_wp2_with fail
                go_meet
                exact ⟨congrArg Value.bool (decide_eq_true (by omega)).symm, rfl⟩
              · skip
                by_cases q16 : 2932896 < da
                · skip
                  go_wp2_with fail
                  go_meet
                  exact ⟨congrArg Value.bool (decide_eq_true (by omega)).symm, rfl⟩
                · skip
                  go_wp2_with fail
                  go_meet
                  first | exact ⟨congrArg Value.bool (decide_eq_false (by omega)).symm, rfl⟩ | exact ⟨congrArg Value.bool ((show _ = false by simp; omega).trans (decide_eq_false (by omega)).symm), rfl⟩
            case rest =>
              obtain ⟨rfl, rfl⟩ := hcut
              by_cases c12 : da < st ∨ 2932896 < da
              · rw [if_pos c12] at hz
                rw [decide_eq_true c12]
                clear c12
                subst hz
                go_wp2_with fail
                go_ret
                exact ⟨rfl, Keeps.nt (by (repeat (first | exact Keeps.refl _ _ | exact Keeps.alloc _ _ | exact Keeps.drew _ | exact Keeps.drewN _ _ | refine Keeps.trans_drew ?_ | refine Keeps.trans_drewN ?_ | refine Keeps.trans_alloc ?_))) Hk1.out⟩
              rw [if_neg c12] at hz
              rw [decide_eq_false c12]
              clear c12
              go_upto_region 14 with fail
              go_cut [7] from 68 to 75 (fun s7 wx => s7 = .bool (decide (ki = 4 ∨ ki = 5)) ∧ w1 = wx)
              case first =>
                have Hz := Lib.hid hz; clear hz
                by_cases q16 : ki = 4
                · skip
                  have p16 : (ki == 4) = true := by simp [q16]
                  have p16' : (ki != 4) = false := by simp [q16]
                  have Q16 := Lib.hid q16; clear q16
                  go_wp2_with fail
                  go_meet
                  have q16 := Q16.out
                  exact ⟨congrArg Value.bool (decide_eq_true (by omega)).symm, rfl⟩
                · skip
                  have p16 : (ki == 4) = false := by simp [q16]
                  have p16' : (ki != 4) = true := by simp [q16]
                  have Q16 := Lib.hid q16; clear q16
                  by_cases q18 : ki = 5
                  · skip
                    have p18 : (ki == 5) = true := by simp [q18]
                    have p18' : (ki != 5) = false := by simp [q18]
                    have Q18 := Lib.hid q18; clear q18
                    go_wp2_with fail
                    go_meet
                    have q16 := Q16.out
                    have q18 := Q18.out
                    exact ⟨congrArg Value.bool (decide_eq_true (by omega)).symm, rfl⟩
                  · skip
                    have p18 : (ki == 5) = false := by simp [q18]
                    have p18' : (ki != 5) = true := by simp [q18]
                    have Q18 := Lib.hid q18; clear q18
                    go_wp2_with fail
                    go_meet
                    have q16 := Q16.out
                    have q18 := Q18.out
                    first | exact ⟨congrArg Value.bool (decide_eq_false (by omega)).symm, rfl⟩ | exact ⟨congrArg Value.bool ((show _ = false by simp; omega).trans (decide_eq_false (by omega)).symm), rfl⟩
              case rest =>
                obtain ⟨rfl, rfl⟩ := hcut
                obtain ⟨d, hd⟩ : ∃ d, decide (ki = 4 ∨ ki = 5) = d := ⟨_, rfl⟩
                rw [hd]
                have Hd := Lib.hid hd; clear hd
                have hf : (((ki = 4 ∨ ki = 5) ∧ (re < 1 ∨ 2000 < re)) ∨ (¬ (ki = 4 ∨ ki = 5) ∧ ¬ re = 0)) = ((d = true ∧ (re < 1 ∨ 2000 < re)) ∨ (d = false ∧ ¬ re = 0)) := by
                  cases d
                  · have := of_decide_eq_false Hd.out; simp [this]
                  · have := of_decide_eq_true Hd.out; simp [this]
                rw [ite_congr hf (fun _ => rfl) (fun _ => rfl)] at hz
                clear hf
                cases d
                · skip
                  have hf : ((false = true ∧ (re < 1 ∨ 2000 < re)) ∨ (false = false ∧ ¬ re = 0)) = (¬ re = 0) := by simp
                  rw [ite_congr hf (fun _ => rfl) (fun _ => rfl)] at hz
                  clear hf
                  go_upto_region 15 with fail
                  go_cut [95] from 76 to 95 (fun s95 wx => s95 = .bool (decide (¬ re = 0)) ∧ w1 = wx)
                  case first =>
                    have Hz := Lib.hid hz; clear hz
                    by_cases q20 : re = 0
                    · skip
                      have p20 : (re == 0) = true := by simp [q20]
                      have p20' : (re != 0) = false := by simp [q20]
                      have Q20 := Lib.hid q20; clear q20
                      go_wp2_with fail
                      go_meet
                      have q20 := Q20.out
                      first | exact ⟨congrArg Value.bool (decide_eq_false (by omega)).symm, rfl⟩ | exact ⟨congrArg Value.bool ((show _ = false by simp; omega).trans (decide_eq_false (by omega)).symm), rfl⟩
                    · skip
                      have p20 : (re == 0) = false := by simp [q20]
                      have p20' : (re != 0) = true := by simp [q20]
                      have Q20 := Lib.hid q20; clear q20
                      go_wp2_with fail
                      go_meet
                      have q20 := Q20.out
                      exact ⟨congrArg Value.bool (decide_eq_true (by omega)).symm, rfl⟩
                  case rest =>
                    obtain ⟨rfl, rfl⟩ := hcut
                    by_cases c15 : ¬ re = 0
                    · rw [if_pos c15] at hz
                      rw [decide_eq_true c15]
                      clear c15
                      subst hz
                      go_wp2_with fail
                      go_ret
                      exact ⟨rfl, Keeps.nt (by (repeat (first | exact Keeps.refl _ _ | exact Keeps.alloc _ _ | exact Keeps.drew _ | exact Keeps.drewN _ _ | refine Keeps.trans_drew ?_ | refine Keeps.trans_drewN ?_ | refine Keeps.trans_alloc ?_))) Hk1.out⟩
                    rw [if_neg c15] at hz
                    rw [decide_eq_false c15]
                    clear c15
                    subst hz
                    go_wp2_with fail
                    go_ret
                    exact ⟨rfl, Keeps.nt (by (repeat (first | exact Keeps.refl _ _ | exact Keeps.alloc _ _ | exact Keeps.drew _ | exact Keeps.drewN _ _ | refine Keeps.trans_drew ?_ | refine Keeps.trans_drewN ?_ | refine Keeps.trans_alloc ?_))) Hk1.out⟩
                · skip
                  have hf : ((true = true ∧ (re < 1 ∨ 2000 < re)) ∨ (true = false ∧ ¬ re = 0)) = (re < 1 ∨ 2000 < re) := by simp
                  rw [ite_congr hf (fun _ => rfl) (fun _ => rfl)] at hz
                  clear hf
                  go_upto_region 15 with fail
                  go_cut [95] from 76 to 95 (fun s95 wx => s95 = .bool (decide (re < 1 ∨ 2000 < re)) ∧ w1 = wx)
                  case first =>
                    have Hz := Lib.hid hz; clear hz
                    by_cases q20 : re < 1
                    · skip
                      go_wp2_with fail
                      go_meet
                      exact ⟨congrArg Value.bool (decide_eq_true (by omega)).symm, rfl⟩
                    · skip
                      by_cases q22 : 2000 < re
                      · skip
                        go_wp2_with fail
                        go_meet
                        exact ⟨congrArg Value.bool (decide_eq_true (by omega)).symm, rfl⟩
                      · skip
                        go_wp2_with fail
                        go_meet
                        first | exact ⟨congrArg Value.bool (decide_eq_false (by omega)).symm, rfl⟩ | exact ⟨congrArg Value.bool ((show _ = false by simp; omega).trans (decide_eq_false (by omega)).symm), rfl⟩
                  case rest =>
                    obtain ⟨rfl, rfl⟩ := hcut
                    by_cases c15 : re < 1 ∨ 2000 < re
                    · rw [if_pos c15] at hz
                      rw [decide_eq_true c15]
                      clear c15
                      subst hz
                      go_wp2_with fail
                      go_ret
                      exact ⟨rfl, Keeps.nt (by (repeat (first | exact Keeps.refl _ _ | exact Keeps.alloc _ _ | exact Keeps.drew _ | exact Keeps.drewN _ _ | refine Keeps.trans_drew ?_ | refine Keeps.trans_drewN ?_ | refine Keeps.trans_alloc ?_))) Hk1.out⟩
                    rw [if_neg c15] at hz
                    rw [decide_eq_false c15]
                    clear c15
                    subst hz
                    go_wp2_with fail
                    go_ret
                    exact ⟨rfl, Keeps.nt (by (repeat (first | exact Keeps.refl _ _ | exact Keeps.alloc _ _ | exact Keeps.drew _ | exact Keeps.drewN _ _ | refine Keeps.trans_drew ?_ | refine Keeps.trans_drewN ?_ | refine Keeps.trans_alloc ?_))) Hk1.out⟩
  · have hz := Hz.out
    rw [if_pos (by decide)] at hz
    subst hz
    go_wp2_with fail
    go_ret
    exact ⟨rfl, Keeps.nt (by (repeat (first | exact Keeps.refl _ _ | exact Keeps.alloc _ _ | exact Keeps.drew _ | exact Keeps.drewN _ _ | refine Keeps.trans_drew ?_ | refine Keeps.trans_drewN ?_ | refine Keeps.trans_alloc ?_))) Hk1.out⟩
theorem revRight_any (t : Tm) (ev : Ev) (ad : Option Addr) (cap : Nat) (w : World) (hr : Reads w 2 (.slice ad t.trs.length cap) t.trs.length (t.trs.flatMap Tn.cells)) (hl : t.trs.length ≤ 1000000) :
    Calls Try.prog 17 #[t.val (.slice ad t.trs.length cap), ev.agg] w fun e w' => e = .returned (.int .i64 (evErr t ev)) ∧ Keeps (fun _ => False) w w' := revRight_go _ _ _ _ _ _ _ _ _ _ _ _ _ ad cap w hr hl rfl
end Go.Proofs.Ytelhlbplbkglkaa
