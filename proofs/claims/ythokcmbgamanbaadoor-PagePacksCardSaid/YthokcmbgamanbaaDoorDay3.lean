/- The walk of the document's Date. -/
import Derived.Test.YthokcmbgamanbaaDoorDay2
namespace Go.Proofs.YthokcmbgamanbaaDoor
open Go.RowKit
theorem haltD {p : Prop} (h : Hid p) : p := h.out
set_option maxRecDepth 100000 in
set_option maxHeartbeats 1600000 in
theorem rdayDate_any (n : Int) (w : World) (hn : -9000000000000000000 ≤ n ∧ n ≤ 9000000000000000000) : Calls Tryd.prog 51 #[.int .i64 n] w fun e w' => e = .returned (.tuple #[.agg (if dayIn n = true then #[.int .i64 (dY n), .int .i64 (dM n), .int .i64 (dD n)] else #[.int .i64 0, .int .i64 0, .int .i64 0]), .int .i64 (if dayIn n = true then 0 else 10)]) ∧ Keeps (fun _ => False) w w' := by
  by_cases hin : -135140 ≤ n ∧ n ≤ 2932896
  · have hd : dayIn n = true := by simp [dayIn, hin]
    rw [if_pos hd, if_pos hd]
    obtain ⟨rY, hrY⟩ : ∃ a, dY n = a := ⟨_, rfl⟩
    obtain ⟨rM, hrM⟩ : ∃ a, dM n = a := ⟨_, rfl⟩
    obtain ⟨rD, hrD⟩ : ∃ a, dD n = a := ⟨_, rfl⟩
    rw [hrY, hrM, hrD]
    obtain ⟨hn1, hn2⟩ := hin
    obtain ⟨L, hL⟩ : ∃ L, n + 135140 = L := ⟨_, rfl⟩
    have hL0 : 0 ≤ L := by omega
    have t1 : L.tdiv 146097 = L / 146097 := Int.tdiv_eq_ediv_of_nonneg hL0
    have t2 : L.tmod 146097 = L % 146097 := Int.tmod_eq_emod_of_nonneg hL0
    have Hd := Lib.hid hd; clear hd; have HrY := Lib.hid hrY; clear hrY; have HrM := Lib.hid hrM; clear hrM; have HrD := Lib.hid hrD; clear hrD
    go_enter Tryd.func51, Tryd.ntmps51
    go_wp2
    go_loopw [4, 5] (fun x z wx => ∃ y l : Int, x = .int .i64 l ∧ z = .int .i64 y ∧ 1600 ≤ y ∧ 0 ≤ l ∧ nY y + l = n ∧ wx = w.alloc (.cells #[.int .i64 0, .int .i64 0, .int .i64 0] 74)) (fun x _ _ => (intOf x).toNat)
    case atStart => exact ⟨_, _, rfl, rfl, by omega, by omega, by unfold nY; omega, rfl⟩
    case round =>
      obtain ⟨y, l, rfl, rfl, hy1, hl0, hyl, rfl⟩ := hrel
      have hcall := fun W => rdayYears_any y (by omega) W
      have hsucc := nY_succ hy1
      have hp := ylen_pos y
      have hy9 : y ≤ 9999 := nY_lt hy1 (by omega) (by have : nY (9999 + 1) = 2932897 := by decide
                                                      omega)
      obtain ⟨k, hk⟩ : ∃ k, ylen y = k := ⟨_, rfl⟩
      rw [hk] at hcall hsucc hp
      have hl9 : l ≤ 9000000000 := by have : -135140 ≤ nY y := by have := nY_mono (x := 1600) (y := y) (by omega) hy1; have : nY 1600 = -135140 := by decide
                                                                  omega
                                      omega
      by_cases hgo : k ≤ l
      · have Hcall := Lib.hid hcall; clear hcall; have Hsucc := Lib.hid hsucc; clear hsucc; have Hyl := Lib.hid hyl; clear hyl; have Hk := Lib.hid hk; clear hk
        go_wp2_with (go_at_call 59; (refine (Hcall.out _).mono ?_); rintro e w1 ⟨rfl, rfl⟩; refine haltD ?_)
        refine Lib.hid ?_
        go_wp2_with (go_at_call 59; (refine (Hcall.out _).mono ?_); rintro e w1 ⟨rfl, rfl⟩)
        go_roundw
        case rel => exact ⟨y + 1, l - k, rfl, rfl, by omega, by omega, by have := Hsucc.out; have := Hyl.out; omega, by first | rfl | trivial⟩
        case measure => simp [intOf]; omega
      · obtain ⟨hyf, _⟩ := yearF_eq hy1 (by omega) (by omega) hn2
        obtain rfl : rY = y := HrY.out.symm.trans hyf
        have hmo : MoAt (yearF n) (n - nY (yearF n)) 1 l := by rw [hyf, show n - nY rY = l by omega]; exact MoAt.start hl0
        have hrl : n - nY rY < ylen rY := by omega
        have Hcall := Lib.hid hcall; clear hcall; have Hsucc := Lib.hid hsucc; clear hsucc; have Hyl := Lib.hid hyl; clear hyl; have Hk := Lib.hid hk; clear hk; have Hyf := Lib.hid hyf; clear hyf; have Hmo := Lib.hid hmo; clear hmo; have Hrl := Lib.hid hrl; clear hrl
        go_wp2_with (go_at_call 59; (refine (Hcall.out _).mono ?_); rintro e w1 ⟨rfl, rfl⟩)
        clear hL0 hL t1 t2
        go_loopw [4, 6] (fun x z wx => ∃ (j : Nat) (q : Int), x = .int .i64 q ∧ z = .int .i64 (j : Nat) ∧ MoAt (yearF n) (n - nY (yearF n)) j q ∧ wx = w.alloc (.cells #[.int .i64 0, .int .i64 0, .int .i64 0] 74)) (fun _ z _ => 20 - (intOf z).toNat)
        case atStart => exact ⟨1, l, rfl, rfl, Hmo.out, rfl⟩
        case round =>
          obtain ⟨j, q, rfl, rfl, hm, rfl⟩ := hrel
          rw [Hyf.out] at hm
          have hlo := hm.lo
          have hhi := hm.hi
          have hq0 := hm.q0
          have hsum := hm.sum
          have hml := (cumT_succ (y := rY) (m := j) (by omega) (by omega)).2
          have hcl := fun W => rdayLength_any rY j (by omega) (by omega) (by omega) W
          obtain ⟨ml, hmle⟩ : ∃ l, mlen rY j = l := ⟨_, rfl⟩
          rw [hmle] at hcl hml
          have hcum : 0 ≤ cumT rY j := by unfold cumT; split <;> (try split) <;> omega
          have hq1 : q ≤ 400 := by have := Hrl.out; have := ylen_pos rY; omega
          by_cases hgo2 : ml ≤ q
          · have hnx := hm.next Hrl.out (by rw [hmle]; exact hgo2)
            rw [hmle] at hnx
            have Hm := Lib.hid hm; clear hm; have Hcl := Lib.hid hcl; clear hcl; have Hmle := Lib.hid hmle; clear hmle; have Hnx := Lib.hid hnx; clear hnx; have Hsum := Lib.hid hsum; clear hsum; have Hcum := Lib.hid hcum; clear hcum
            go_wp2_with (go_at_call 60; (refine (Hcl.out _).mono ?_); rintro e w1 ⟨rfl, rfl⟩; refine haltD ?_)
            refine Lib.hid ?_
            go_wp2_with (go_at_call 60; (refine (Hcl.out _).mono ?_); rintro e w1 ⟨rfl, rfl⟩)
            go_roundw
            case rel => exact ⟨j + 1, q - ml, rfl, by go_num, by rw [Hyf.out]; exact Hnx.out, by first | rfl | trivial⟩
            case measure => simp [intOf]; omega
          · have hdone := hm.done (by rw [hmle]; exact hgo2)
            obtain rfl : rM = j := HrM.out.symm.trans (by unfold dM; rw [Hyf.out, hdone])
            obtain rfl : rD = q + 1 := HrD.out.symm.trans (by unfold dD; rw [Hyf.out, hdone])
            have Hm := Lib.hid hm; clear hm; have Hcl := Lib.hid hcl; clear hcl; have Hmle := Lib.hid hmle; clear hmle; have Hdone := Lib.hid hdone; clear hdone; have Hsum := Lib.hid hsum; clear hsum; have Hcum := Lib.hid hcum; clear hcum
            go_wp2_with (go_at_call 60; (refine (Hcl.out _).mono ?_); rintro e w1 ⟨rfl, rfl⟩)
            exact bodyPost_ret (v := .tuple #[.agg #[.int .i64 rY, .int .i64 (j : Int), .int .i64 (q + 1)], .int .i64 0]) (by simp [results, Tryd.results51, go_sem]) rfl ⟨rfl, by (repeat (first | exact Keeps.refl _ _ | exact Keeps.alloc _ _ | exact Keeps.drew _ | exact Keeps.drewN _ _ | refine Keeps.trans_drew ?_ | refine Keeps.trans_drewN ?_ | refine Keeps.trans_alloc ?_))⟩
  · have hd : dayIn n = false := by simp [dayIn]; omega
    have hdd : ¬ dayIn n = true := by rw [hd]; decide
    rw [if_neg hdd, if_neg hdd]
    have hc : n < -135140 ∨ 2932896 < n := by omega
    clear hin
    have Hd := Lib.hid hd; clear hd; have Hdd := Lib.hid hdd; clear hdd
    go_enter Tryd.func51, Tryd.ntmps51
    rcases hc with hc | hc
    · go_wp2
      exact bodyPost_ret (v := .tuple #[.agg #[.int .i64 0, .int .i64 0, .int .i64 0], .int .i64 10]) (by simp [results, Tryd.results51, go_sem]) rfl ⟨rfl, by (repeat (first | exact Keeps.refl _ _ | exact Keeps.alloc _ _ | exact Keeps.drew _ | exact Keeps.drewN _ _ | refine Keeps.trans_drew ?_ | refine Keeps.trans_drewN ?_ | refine Keeps.trans_alloc ?_))⟩
    · have hc2 : ¬ n < -135140 := by omega
      go_wp2
      exact bodyPost_ret (v := .tuple #[.agg #[.int .i64 0, .int .i64 0, .int .i64 0], .int .i64 10]) (by simp [results, Tryd.results51, go_sem]) rfl ⟨rfl, by (repeat (first | exact Keeps.refl _ _ | exact Keeps.alloc _ _ | exact Keeps.drew _ | exact Keeps.drewN _ _ | refine Keeps.trans_drew ?_ | refine Keeps.trans_drewN ?_ | refine Keeps.trans_alloc ?_))⟩
end Go.Proofs.YthokcmbgamanbaaDoor
