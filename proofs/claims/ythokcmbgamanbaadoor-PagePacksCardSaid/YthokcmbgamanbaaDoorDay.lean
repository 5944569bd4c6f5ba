/- The walks of the day layer, the program's and the document's. -/
import Derived.Test.YthokcmbgamanbaaDoorDayPl
import Derived.Test.YthokcmbgamanbaaDoorKit5
import Derived.Test.YthokcmbgamanbaaDoorMix
namespace Go.Proofs.YthokcmbgamanbaaDoor
open Go.RowKit
theorem tm4 {y : Int} (h : 0 ≤ y) (k : Int) : y.tmod k = y % k := Int.tmod_eq_emod_of_nonneg h
set_option maxRecDepth 100000 in
set_option maxHeartbeats 800000 in
theorem dayLeap_any (y : Int) (h : 0 ≤ y) (w : World) : Calls Tryd.prog 65 #[.int .i64 y] w fun e w' => e = .returned (.bool (leapB y)) ∧ w = w' := by
  have q4 := tm4 h 4
  have q100 := tm4 h 100
  have q400 := tm4 h 400
  by_cases h4 : y % 4 = 0
  · by_cases h100 : y % 100 = 0
    · by_cases h400 : y % 400 = 0
      · have hf : leapB y = true := (leapB_iff y).2 ⟨h4, .inr h400⟩
        have Hf := Lib.hid hf; clear hf
        go_enter Tryd.func65, Tryd.ntmps65
        go_wp2
        go_ret
        exact ⟨by rw [Hf.out]; rfl, rfl⟩
      · have hf : leapB y = false := by rw [Bool.eq_false_iff]; intro hh; have := (leapB_iff y).1 hh; omega
        have b4 : (y % 400 == 0) = false := beq_eq_false_iff_ne.2 h400
        have Hf := Lib.hid hf; clear hf
        go_enter Tryd.func65, Tryd.ntmps65
        go_wp2
        go_ret
        exact ⟨by rw [Hf.out]; rfl, rfl⟩
    · have hf : leapB y = true := (leapB_iff y).2 ⟨h4, .inl h100⟩
      have b1 : (y % 100 != 0) = true := by simp [h100]
      have Hf := Lib.hid hf; clear hf
      go_enter Tryd.func65, Tryd.ntmps65
      go_wp2
      go_ret
      exact ⟨by rw [Hf.out]; rfl, rfl⟩
  · have hf : leapB y = false := by rw [Bool.eq_false_iff]; intro hh; have := (leapB_iff y).1 hh; omega
    have b4 : (y % 4 == 0) = false := beq_eq_false_iff_ne.2 h4
    have Hf := Lib.hid hf; clear hf
    go_enter Tryd.func65, Tryd.ntmps65
    go_wp2
    go_ret
    exact ⟨by rw [Hf.out]; rfl, rfl⟩
set_option maxRecDepth 100000 in
set_option maxHeartbeats 800000 in
theorem rdayLeap_any (y : Int) (h : 0 ≤ y) (w : World) : Calls Tryd.prog 66 #[.int .i64 y] w fun e w' => e = .returned (.bool (leapB y)) ∧ w = w' := by
  have q4 := tm4 h 4
  have q100 := tm4 h 100
  have q400 := tm4 h 400
  by_cases h4 : y % 4 = 0
  · by_cases h100 : y % 100 = 0
    · by_cases h400 : y % 400 = 0
      · have hf : leapB y = true := (leapB_iff y).2 ⟨h4, .inr h400⟩
        have Hf := Lib.hid hf; clear hf
        go_enter Tryd.func66, Tryd.ntmps66
        go_wp2
        go_ret
        exact ⟨by rw [Hf.out]; rfl, rfl⟩
      · have hf : leapB y = false := by rw [Bool.eq_false_iff]; intro hh; have := (leapB_iff y).1 hh; omega
        have b4 : (y % 400 == 0) = false := beq_eq_false_iff_ne.2 h400
        have Hf := Lib.hid hf; clear hf
        go_enter Tryd.func66, Tryd.ntmps66
        go_wp2
        go_ret
        exact ⟨by rw [Hf.out]; rfl, rfl⟩
    · have hf : leapB y = true := (leapB_iff y).2 ⟨h4, .inl h100⟩
      have b1 : (y % 100 != 0) = true := by simp [h100]
      have Hf := Lib.hid hf; clear hf
      go_enter Tryd.func66, Tryd.ntmps66
      go_wp2
      go_ret
      exact ⟨by rw [Hf.out]; rfl, rfl⟩
  · have hf : leapB y = false := by rw [Bool.eq_false_iff]; intro hh; have := (leapB_iff y).1 hh; omega
    have b4 : (y % 4 == 0) = false := beq_eq_false_iff_ne.2 h4
    have Hf := Lib.hid hf; clear hf
    go_enter Tryd.func66, Tryd.ntmps66
    go_wp2
    go_ret
    exact ⟨by rw [Hf.out]; rfl, rfl⟩
set_option maxRecDepth 100000 in
set_option maxHeartbeats 1600000 in
theorem dayLength_any (y m : Int) (h : 0 ≤ y) (h1 : 1 ≤ m) (h2 : m ≤ 12) (w : World) : Calls Tryd.prog 58 #[.int .i64 y, .int .i64 m] w fun e w' => e = .returned (.int .i64 (mlen y m)) ∧ w = w' := by
  have hlp := dayLeap_any y h w
  obtain rfl | rfl | rfl | rfl | rfl | rfl | rfl | rfl | rfl | rfl | rfl | rfl : m = 1 ∨ m = 2 ∨ m = 3 ∨ m = 4 ∨ m = 5 ∨ m = 6 ∨ m = 7 ∨ m = 8 ∨ m = 9 ∨ m = 10 ∨ m = 11 ∨ m = 12 := by omega
  · have hm : mlen y 1 = mlen y 1 := rfl
    have Hm := Lib.hid hm; clear hm
    go_enter Tryd.func58, Tryd.ntmps58
    go_wp2
    go_ret
    exact ⟨rfl, rfl⟩
  · rcases hb : leapB y with _ | _
    · rw [hb] at hlp
      have hf : mlen y 2 = 28 := by unfold mlen; rw [hb]; rfl
      have Hlp := Lib.hid hlp; clear hlp; have Hf := Lib.hid hf; clear hf
      go_enter Tryd.func58, Tryd.ntmps58
      go_wp2_with (go_at_call 65; (refine Hlp.out.mono ?_); rintro e w1 ⟨rfl, rfl⟩)
      go_ret
      exact ⟨by rw [Hf.out]; rfl, rfl⟩
    · rw [hb] at hlp
      have hf : mlen y 2 = 29 := by unfold mlen; rw [hb]; rfl
      have Hlp := Lib.hid hlp; clear hlp; have Hf := Lib.hid hf; clear hf
      go_enter Tryd.func58, Tryd.ntmps58
      go_wp2_with (go_at_call 65; (refine Hlp.out.mono ?_); rintro e w1 ⟨rfl, rfl⟩)
      go_ret
      exact ⟨by rw [Hf.out]; rfl, rfl⟩
  · have hm : mlen y 3 = mlen y 3 := rfl
    have Hm := Lib.hid hm; clear hm
    go_enter Tryd.func58, Tryd.ntmps58
    go_wp2
    go_ret
    exact ⟨rfl, rfl⟩
  · have hm : mlen y 4 = mlen y 4 := rfl
    have Hm := Lib.hid hm; clear hm
    go_enter Tryd.func58, Tryd.ntmps58
    go_wp2
    go_ret
    exact ⟨rfl, rfl⟩
  · have hm : mlen y 5 = mlen y 5 := rfl
    have Hm := Lib.hid hm; clear hm
    go_enter Tryd.func58, Tryd.ntmps58
    go_wp2
    go_ret
    exact ⟨rfl, rfl⟩
  · have hm : mlen y 6 = mlen y 6 := rfl
    have Hm := Lib.hid hm; clear hm
    go_enter Tryd.func58, Tryd.ntmps58
    go_wp2
    go_ret
    exact ⟨rfl, rfl⟩
  · have hm : mlen y 7 = mlen y 7 := rfl
    have Hm := Lib.hid hm; clear hm
    go_enter Tryd.func58, Tryd.ntmps58
    go_wp2
    go_ret
    exact ⟨rfl, rfl⟩
  · have hm : mlen y 8 = mlen y 8 := rfl
    have Hm := Lib.hid hm; clear hm
    go_enter Tryd.func58, Tryd.ntmps58
    go_wp2
    go_ret
    exact ⟨rfl, rfl⟩
  · have hm : mlen y 9 = mlen y 9 := rfl
    have Hm := Lib.hid hm; clear hm
    go_enter Tryd.func58, Tryd.ntmps58
    go_wp2
    go_ret
    exact ⟨rfl, rfl⟩
  · have hm : mlen y 10 = mlen y 10 := rfl
    have Hm := Lib.hid hm; clear hm
    go_enter Tryd.func58, Tryd.ntmps58
    go_wp2
    go_ret
    exact ⟨rfl, rfl⟩
  · have hm : mlen y 11 = mlen y 11 := rfl
    have Hm := Lib.hid hm; clear hm
    go_enter Tryd.func58, Tryd.ntmps58
    go_wp2
    go_ret
    exact ⟨rfl, rfl⟩
  · have hm : mlen y 12 = mlen y 12 := rfl
    have Hm := Lib.hid hm; clear hm
    go_enter Tryd.func58, Tryd.ntmps58
    go_wp2
    go_ret
    exact ⟨rfl, rfl⟩
set_option maxRecDepth 100000 in
set_option maxHeartbeats 1600000 in
theorem rdayLength_any (y m : Int) (h : 0 ≤ y) (h1 : 1 ≤ m) (h2 : m ≤ 12) (w : World) : Calls Tryd.prog 60 #[.int .i64 y, .int .i64 m] w fun e w' => e = .returned (.int .i64 (mlen y m)) ∧ w = w' := by
  have hlp := rdayLeap_any y h w
  obtain rfl | rfl | rfl | rfl | rfl | rfl | rfl | rfl | rfl | rfl | rfl | rfl : m = 1 ∨ m = 2 ∨ m = 3 ∨ m = 4 ∨ m = 5 ∨ m = 6 ∨ m = 7 ∨ m = 8 ∨ m = 9 ∨ m = 10 ∨ m = 11 ∨ m = 12 := by omega
  · have hm : mlen y 1 = mlen y 1 := rfl
    have Hm := Lib.hid hm; clear hm
    go_enter Tryd.func60, Tryd.ntmps60
    go_wp2
    go_ret
    exact ⟨rfl, rfl⟩
  · rcases hb : leapB y with _ | _
    · rw [hb] at hlp
      have hf : mlen y 2 = 28 := by unfold mlen; rw [hb]; rfl
      have Hlp := Lib.hid hlp; clear hlp; have Hf := Lib.hid hf; clear hf
      go_enter Tryd.func60, Tryd.ntmps60
      go_wp2_with (go_at_call 66; (refine Hlp.out.mono ?_); rintro e w1 ⟨rfl, rfl⟩)
      go_ret
      exact ⟨by rw [Hf.out]; rfl, rfl⟩
    · rw [hb] at hlp
      have hf : mlen y 2 = 29 := by unfold mlen; rw [hb]; rfl
      have Hlp := Lib.hid hlp; clear hlp; have Hf := Lib.hid hf; clear hf
      go_enter Tryd.func60, Tryd.ntmps60
      go_wp2_with (go_at_call 66; (refine Hlp.out.mono ?_); rintro e w1 ⟨rfl, rfl⟩)
      go_ret
      exact ⟨by rw [Hf.out]; rfl, rfl⟩
  · have hm : mlen y 3 = mlen y 3 := rfl
    have Hm := Lib.hid hm; clear hm
    go_enter Tryd.func60, Tryd.ntmps60
    go_wp2
    go_ret
    exact ⟨rfl, rfl⟩
  · have hm : mlen y 4 = mlen y 4 := rfl
    have Hm := Lib.hid hm; clear hm
    go_enter Tryd.func60, Tryd.ntmps60
    go_wp2
    go_ret
    exact ⟨rfl, rfl⟩
  · have hm : mlen y 5 = mlen y 5 := rfl
    have Hm := Lib.hid hm; clear hm
    go_enter Tryd.func60, Tryd.ntmps60
    go_wp2
    go_ret
    exact ⟨rfl, rfl⟩
  · have hm : mlen y 6 = mlen y 6 := rfl
    have Hm := Lib.hid hm; clear hm
    go_enter Tryd.func60, Tryd.ntmps60
    go_wp2
    go_ret
    exact ⟨rfl, rfl⟩
  · have hm : mlen y 7 = mlen y 7 := rfl
    have Hm := Lib.hid hm; clear hm
    go_enter Tryd.func60, Tryd.ntmps60
    go_wp2
    go_ret
    exact ⟨rfl, rfl⟩
  · have hm : mlen y 8 = mlen y 8 := rfl
    have Hm := Lib.hid hm; clear hm
    go_enter Tryd.func60, Tryd.ntmps60
    go_wp2
    go_ret
    exact ⟨rfl, rfl⟩
  · have hm : mlen y 9 = mlen y 9 := rfl
    have Hm := Lib.hid hm; clear hm
    go_enter Tryd.func60, Tryd.ntmps60
    go_wp2
    go_ret
    exact ⟨rfl, rfl⟩
  · have hm : mlen y 10 = mlen y 10 := rfl
    have Hm := Lib.hid hm; clear hm
    go_enter Tryd.func60, Tryd.ntmps60
    go_wp2
    go_ret
    exact ⟨rfl, rfl⟩
  · have hm : mlen y 11 = mlen y 11 := rfl
    have Hm := Lib.hid hm; clear hm
    go_enter Tryd.func60, Tryd.ntmps60
    go_wp2
    go_ret
    exact ⟨rfl, rfl⟩
  · have hm : mlen y 12 = mlen y 12 := rfl
    have Hm := Lib.hid hm; clear hm
    go_enter Tryd.func60, Tryd.ntmps60
    go_wp2
    go_ret
    exact ⟨rfl, rfl⟩
set_option maxRecDepth 100000 in
set_option maxHeartbeats 800000 in
theorem dayNewYear_any (y : Int) (h1 : 1600 ≤ y) (h2 : y ≤ 100000) (w : World) : Calls Tryd.prog 57 #[.int .i64 y] w fun e w' => e = .returned (.int .i64 (nY y)) ∧ w = w' := by
  have t4 : (y - 1600 + 3).tdiv 4 = (y - 1600 + 3) / 4 := Int.tdiv_eq_ediv_of_nonneg (by omega)
  have t100 : (y - 1600 + 99).tdiv 100 = (y - 1600 + 99) / 100 := Int.tdiv_eq_ediv_of_nonneg (by omega)
  have t400 : (y - 1600 + 399).tdiv 400 = (y - 1600 + 399) / 400 := Int.tdiv_eq_ediv_of_nonneg (by omega)
  have hf : nY y = -135140 + 365 * (y - 1600) + (y - 1600 + 3) / 4 - (y - 1600 + 99) / 100 + (y - 1600 + 399) / 400 := rfl
  have Hf := Lib.hid hf; clear hf
  go_enter Tryd.func57, Tryd.ntmps57
  go_wp2
  go_ret
  refine ⟨?_, rfl⟩
  rw [Hf.out]
  rfl
set_option maxRecDepth 100000 in
set_option maxHeartbeats 800000 in
theorem rdayYears_any (y : Int) (h : 0 ≤ y) (w : World) : Calls Tryd.prog 59 #[.int .i64 y] w fun e w' => e = .returned (.int .i64 (ylen y)) ∧ w = w' := by
  have hlp := rdayLeap_any y h w
  rcases hb : leapB y with _ | _
  · rw [hb] at hlp
    have hf : ylen y = 365 := by unfold ylen; rw [hb]; rfl
    have Hlp := Lib.hid hlp; clear hlp; have Hf := Lib.hid hf; clear hf
    go_enter Tryd.func59, Tryd.ntmps59
    go_wp2_with (go_at_call 66; (refine Hlp.out.mono ?_); rintro e w1 ⟨rfl, rfl⟩)
    go_ret
    exact ⟨by rw [Hf.out]; rfl, rfl⟩
  · rw [hb] at hlp
    have hf : ylen y = 366 := by unfold ylen; rw [hb]; rfl
    have Hlp := Lib.hid hlp; clear hlp; have Hf := Lib.hid hf; clear hf
    go_enter Tryd.func59, Tryd.ntmps59
    go_wp2_with (go_at_call 66; (refine Hlp.out.mono ?_); rintro e w1 ⟨rfl, rfl⟩)
    go_ret
    exact ⟨by rw [Hf.out]; rfl, rfl⟩
end Go.Proofs.YthokcmbgamanbaaDoor
