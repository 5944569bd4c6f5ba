/- DisputeCounts: numbers rise by one, whatever has ended; what may not be opened takes no number. -/
import Derived.Test.YtmiafnndoioddaaDispute3
namespace Go.Proofs.Ytmiafnndoioddaa
open Go.RowKit
def countsSt (b : Bool) (j : Nat) : Int := if b then (if (j : Int) % 2 = 0 then 2 else 3) else 1
def countsL (bs : List Bool) (k : Nat) : List Disp := (List.range k).map fun (j : Nat) => ⟨(j : Int) + 1, 1, j, 5, countsSt (bs.getD j false) j⟩
theorem countsL_length (bs : List Bool) (k : Nat) : (countsL bs k).length = k := by simp [countsL]
theorem countsL_succ (bs : List Bool) (k : Nat) : countsL bs (k + 1) = countsL bs k ++ [⟨(k : Int) + 1, 1, k, 5, countsSt (bs.getD k false) k⟩] := by simp [countsL, List.range_succ]
theorem countsL_held (bs : List Bool) (k : Nat) : 0 ≤ heldOf (countsL bs k) ∧ heldOf (countsL bs k) ≤ 5 * k := by
  induction k with
  | zero => simp [countsL, heldOf]
  | succ k ih => rw [countsL_succ, heldOf_append]; simp only; split <;> omega
theorem countsL_refused (bs : List Bool) (k : Nat) (i : Int) : dOpen (countsL bs k) 0 i 5 = countsL bs k ∧ dOpenErr (countsL bs k) 0 5 = 7 ∧ dOpenRef (countsL bs k) 0 5 = 0 ∧
    dOpen (countsL bs k) 9 i 5 = countsL bs k ∧ dOpenErr (countsL bs k) 9 5 = 7 ∧ dOpenRef (countsL bs k) 9 5 = 0 ∧
    dOpen (countsL bs k) 1 i 0 = countsL bs k ∧ dOpenErr (countsL bs k) 1 0 = 8 ∧ dOpenRef (countsL bs k) 1 0 = 0 := by
  simp [dOpen, dOpenErr, dOpenRef]
theorem countsL_open (bs : List Bool) (k : Nat) (hk : k < 30) : dOpen (countsL bs k) 1 k 5 = countsL bs k ++ [⟨(k : Int) + 1, 1, k, 5, 1⟩] ∧ dOpenErr (countsL bs k) 1 5 = 0 ∧ dOpenRef (countsL bs k) 1 5 = k + 1 := by
  have h1 := countsL_held bs k
  have h0 : dOpenErr (countsL bs k) 1 5 = 0 := by
    unfold dOpenErr
    rw [if_neg (by omega), if_neg (by omega), if_neg (by omega), if_neg (by rw [countsL_length]; omega)]
  refine ⟨?_, h0, ?_⟩
  · unfold dOpen; rw [if_pos h0, countsL_length]
  · unfold dOpenRef; rw [if_pos h0, countsL_length]
theorem countsL_end (bs : List Bool) (k : Nat) (lost : Bool) : ∃ st : Int, dEndErr (countsL bs k ++ [⟨(k : Int) + 1, 1, k, 5, 1⟩]) (k + 1) = 0 ∧ dEnded (countsL bs k ++ [⟨(k : Int) + 1, 1, k, 5, 1⟩]) (k + 1) lost = ⟨(k : Int) + 1, 1, k, 5, st⟩ ∧
    dEnd (countsL bs k ++ [⟨(k : Int) + 1, 1, k, 5, 1⟩]) (k + 1) lost = countsL bs k ++ [⟨(k : Int) + 1, 1, k, 5, st⟩] ∧ st = if lost then 2 else 3 := by
  have hx : (countsL bs k ++ [⟨(k : Int) + 1, 1, k, 5, 1⟩])[k]? = some ⟨(k : Int) + 1, 1, k, 5, 1⟩ := by
    rw [List.getElem?_append_right (by rw [countsL_length]; omega), countsL_length]; simp
  have hA := dEnd_at hx rfl lost
  refine ⟨_, hA.1, hA.2.1, ?_, rfl⟩
  rw [hA.2.2, List.set_append_right _ _ (by rw [countsL_length]; omega), countsL_length]
  simp [Disp.ended]
theorem counts_out (bs : List Bool) (k : Nat) : dEndErr (countsL bs k) (k + 1) = 12 ∧ dEnded (countsL bs k) (k + 1) true = ⟨0, 0, 0, 0, 0⟩ ∧ dEnd (countsL bs k) (k + 1) true = countsL bs k ∧
    dEndErr (countsL bs k) 0 = 12 ∧ dEnded (countsL bs k) 0 true = ⟨0, 0, 0, 0, 0⟩ ∧ dEnd (countsL bs k) 0 true = countsL bs k := by
  have h1 : dEndErr (countsL bs k) (k + 1) = 12 := by unfold dEndErr; rw [if_pos (by rw [countsL_length]; omega)]
  have h2 : dEndErr (countsL bs k) 0 = 12 := by unfold dEndErr; rw [if_pos (by omega)]
  simp [dEnd, dEnded, h1, h2, Disp.zero]
set_option maxRecDepth 100000 in
set_option maxHeartbeats 1600000 in
theorem disputeCounts_walk (w : World) (ad : Option Addr) (cap : Nat) (L : List Bool) (hr : Reads w 1 (.slice ad L.length cap) L.length (L.flatMap fun z => [Value.bool z])) (_ : ∀ a ∈ L, True) (_ : L.length ≤ maxLen) :
    Calls Try.prog 4 #[.slice ad L.length cap] w fun e w' => e = .returned (.bool true) ∧ Below w.heap.size w w' := by
  by_cases l2 : 30 < L.length
  · clear hr
    go_enter Try.func4, Try.ntmps4
    go_wp2_with (go_at_call 7; refine (dispNew_in (Below.refl w.heap.size w) (Nat.le_refl _)).mono ?_; rintro e w1 ⟨rfl, hb1, hq1⟩; have Hb1 := Lib.hid hb1; clear hb1 hq1)
    go_wp2_with (go_at_call 8; refine (awake16_any _).mono ?_; rintro e w2 ⟨rfl, hk2⟩; have Hk2 := Lib.hid hk2; clear hk2; go_wp2_with (go_at_call 8; refine (awake16_any _).mono ?_; rintro e w3 ⟨rfl, hk3⟩; have Hk3 := Lib.hid hk3; clear hk3))
    go_ret
    exact ⟨rfl, (BookIn.step (BookIn.step Hb1.out Hk2.out) Hk3.out).2.2.1⟩
  · have l3 : L.length ≤ 30 := by omega
    clear l2
    have Hr := Lib.hid hr; clear hr
    go_enter Try.func4, Try.ntmps4
    go_wp2_with (go_at_call 7; refine (dispNew_in (Below.refl w.heap.size w) (Nat.le_refl _)).mono ?_; rintro e w1 ⟨rfl, hb1, hq1⟩; have Hb1 := Lib.hid hb1; clear hb1 hq1)
    go_wp2_with (go_at_call 8; refine (awake16_any _).mono ?_; rintro e w2 ⟨rfl, hk2⟩; have Hb2 := Lib.hid (BookIn.step Hb1.out hk2); clear hk2)
    go_loopw [4, 5] (fun n i wr => ∃ k : Nat, ∃ v, k ≤ L.length ∧ n = .int .i64 k ∧ i = .int .i64 k ∧ BookIn w.heap.size w wr w.heap.size v (countsL L k)) (fun _ i _ => L.length - (intOf i).toNat)
    case atStart => exact ⟨0, _, by omega, rfl, rfl, Hb2.out⟩
    case round =>
      obtain ⟨k, v, hk, rfl, rfl, hbk⟩ := hrel
      have Hbk := Lib.hid hbk; clear hbk
      by_cases hlt : k < L.length
      · obtain ⟨x, hx⟩ : ∃ x, L[k]? = some x := ⟨L[k], List.getElem?_eq_getElem hlt⟩
        obtain ⟨g, o, rfl, x0⟩ := Hr.out.bool hx
        have hgl : g < w.heap.size := cell_lt x0
        have R := Lib.hid (countsL_refused L k k)
        have O := Lib.hid (countsL_open L k (by omega))
        obtain ⟨st, t1, t2, t3, t4⟩ := countsL_end L k ((k : Int) % 2 == 0)
        have hnx : countsL L (k + 1) = countsL L k ++ [⟨(k : Int) + 1, 1, k, 5, countsSt x k⟩] := by rw [countsL_succ, List.getD_eq_getElem?_getD, hx]; rfl
        have hm : (k : Int).tmod 2 = (k : Int) % 2 := by rw [Int.tmod_eq_emod_of_nonneg (by omega)]
        have X0 := Lib.hid x0; clear x0
        have Hx := Lib.hid hx; clear hx; have T1 := Lib.hid t1; clear t1; have T2 := Lib.hid t2; clear t2; have T3 := Lib.hid t3; clear t3; have T4 := Lib.hid t4; clear t4; have Hnx := Lib.hid hnx; clear hnx; have Hm := Lib.hid hm; clear hm
        go_wp2_with (go_at_call 9; ((with_reducible refine (dispOpen_in Hbk.out _ _ _ R.out.1 R.out.2.2.1 R.out.2.1).mono ?_); rintro e w3 ⟨rfl, v3, hb3, _⟩; have Hb3 := Lib.hid hb3; clear hb3))
        go_wp2_with (go_at_call 9; ((with_reducible refine (dispOpen_in Hb3.out _ _ _ R.out.2.2.2.1 R.out.2.2.2.2.2.1 R.out.2.2.2.2.1).mono ?_); rintro e w4 ⟨rfl, v4, hb4, _⟩; have Hb4 := Lib.hid hb4; clear hb4))
        go_wp2_with (go_at_call 9; ((with_reducible refine (dispOpen_in Hb4.out _ _ _ R.out.2.2.2.2.2.2.1 R.out.2.2.2.2.2.2.2.2 R.out.2.2.2.2.2.2.2.1).mono ?_); rintro e w5 ⟨rfl, v5, hb5, _⟩; have Hb5 := Lib.hid hb5; clear hb5))
        go_wp2_with (go_at_call 9; ((with_reducible refine (dispOpen_in Hb5.out _ _ _ O.out.1 O.out.2.2 O.out.2.1).mono ?_); rintro e w6 ⟨rfl, v6, hb6, _⟩; have Hb6 := Lib.hid hb6; have x6 := (Hb6.out.2.2.1.cell hgl).trans X0.out; clear hb6))
        · go_wp2_with (go_at_call 10; ((with_reducible refine (dispEnd_in Hb6.out _ _ _ _ _ _ _ T3.out T2.out T1.out).mono ?_); rintro e w7 ⟨rfl, v7, hb7, _⟩; have Hb7 := Lib.hid hb7; clear hb7))
          have hxt : x = true := by assumption
          go_roundw
          case rel => exact ⟨k + 1, v7, by omega, by go_num, by go_num, by rw [Hnx.out, hxt, show countsSt true k = st from by rw [T4.out]; simp [countsSt]]; exact Hb7.out⟩
          case measure => simp [intOf]; omega
        · have hxf : x = false := by assumption
          go_roundw
          case rel => exact ⟨k + 1, v6, by omega, by go_num, by go_num, by rw [Hnx.out, hxf]; exact Hb6.out⟩
          case measure => simp [intOf]; omega
      · have hkl : k = L.length := by omega
        subst hkl
        clear hlt
        have C := Lib.hid (counts_out L L.length)
        have hLl := countsL_length L L.length
        go_wp2_with (go_at_call 10; ((with_reducible refine (dispEnd_in Hbk.out _ _ _ _ _ _ _ C.out.2.2.1 C.out.2.1 C.out.1).mono ?_); rintro e w3 ⟨rfl, v3, hb3, _⟩; have Hb3 := Lib.hid hb3; clear hb3))
        go_wp2_with (go_at_call 10; ((with_reducible refine (dispEnd_in (BookIn.step Hb3.out (Keeps.alloc _ _)) _ _ _ _ _ _ _ C.out.2.2.2.2.2 C.out.2.2.2.2.1 C.out.2.2.2.1).mono ?_); rintro e w4 ⟨rfl, v4, hb4, _⟩; have Hb4 := Lib.hid hb4; clear hb4))
        go_wp2_with (go_at_call 13; ((with_reducible refine (dispAll_in (BookIn.step Hb4.out (Keeps.alloc _ _))).mono ?_); rintro e w5 ⟨⟨ad5, c5, rfl, _⟩, hb5, _⟩; have Hb5 := Lib.hid hb5; clear hb5))
        go_ret
        exact ⟨rfl, Hb5.out.2.2.1⟩
end Go.Proofs.Ytmiafnndoioddaa
