/- DisputeEnds: what has ended stays ended; what is held is less by it, once. -/
import Derived.Test.YtmiafnndoioddaaDispute3
namespace Go.Proofs.Ytmiafnndoioddaa
open Go.RowKit
/-- The amount that the law makes of a number. -/
def endsAmt (z : Int) : Int := wrap64 (1 + wrap64 ((IntKind.u64.wrap z).tmod 1000))
theorem endsAmt_bd (z : Int) : 1 ≤ endsAmt z ∧ endsAmt z ≤ 1000 := by
  have h0 : 0 ≤ IntKind.u64.wrap z := by simp [IntKind.wrap, IntKind.signed, IntKind.bits]; omega
  have h1 : (IntKind.u64.wrap z).tmod 1000 = IntKind.u64.wrap z % 1000 := Int.tmod_eq_emod_of_nonneg h0
  unfold endsAmt
  rw [h1]
  unfold wrap64
  omega
def endsL (zs : List Int) (k : Nat) : List Disp := (List.range k).map fun (j : Nat) => ⟨(j : Int) + 1, 1 + (j : Int) % 8, j, endsAmt (zs.getD j 0), 1⟩
theorem endsL_length (zs : List Int) (k : Nat) : (endsL zs k).length = k := by simp [endsL]
theorem endsL_succ (zs : List Int) (k : Nat) : endsL zs (k + 1) = endsL zs k ++ [⟨(k : Int) + 1, 1 + (k : Int) % 8, k, endsAmt (zs.getD k 0), 1⟩] := by
  simp [endsL, List.range_succ]
theorem endsL_held (zs : List Int) (k : Nat) : 0 ≤ heldOf (endsL zs k) ∧ heldOf (endsL zs k) ≤ 1000 * k ∧ heldOf (endsL zs (k + 1)) = heldOf (endsL zs k) + endsAmt (zs.getD k 0) := by
  have hs : ∀ k, heldOf (endsL zs (k + 1)) = heldOf (endsL zs k) + endsAmt (zs.getD k 0) := fun k => by rw [endsL_succ, heldOf_append]; simp
  refine ⟨?_, ?_, hs k⟩
  · induction k with
    | zero => simp [endsL, heldOf]
    | succ k ih => rw [hs]; have := endsAmt_bd (zs.getD k 0); omega
  · induction k with
    | zero => simp [endsL, heldOf]
    | succ k ih => rw [hs]; have := endsAmt_bd (zs.getD k 0); omega
theorem endsL_open (zs : List Int) (k : Nat) (hk : k < 30) : dOpen (endsL zs k) (1 + (k : Int) % 8) k (endsAmt (zs.getD k 0)) = endsL zs (k + 1) ∧
    dOpenRef (endsL zs k) (1 + (k : Int) % 8) (endsAmt (zs.getD k 0)) = k + 1 ∧ dOpenErr (endsL zs k) (1 + (k : Int) % 8) (endsAmt (zs.getD k 0)) = 0 := by
  have h1 := endsL_held zs k
  have h2 := endsAmt_bd (zs.getD k 0)
  have h0 : dOpenErr (endsL zs k) (1 + (k : Int) % 8) (endsAmt (zs.getD k 0)) = 0 := by
    unfold dOpenErr
    rw [if_neg (by omega), if_neg (by omega), if_neg (by omega), if_neg (by rw [endsL_length]; omega)]
  refine ⟨?_, ?_, h0⟩
  · unfold dOpen; rw [if_pos h0, endsL_length, endsL_succ]
  · unfold dOpenRef; rw [if_pos h0, endsL_length]
theorem ends_again {L : List Disp} {k : Nat} {x : Disp} {lost again : Bool} (hx : L[k]? = some x) (_ : x.state = 1) : dEndErr (L.set k (x.ended lost)) (k + 1) = 13 ∧ dEnd (L.set k (x.ended lost)) (k + 1) again = L.set k (x.ended lost) ∧
    dEnded (L.set k (x.ended lost)) (k + 1) again = ⟨0, 0, 0, 0, 0⟩ := by
  have hk := lt_of_get hx
  have h0 : dEndErr (L.set k (x.ended lost)) (k + 1) = 13 := by
    unfold dEndErr
    rw [if_neg (by simp; omega), show ((k : Int) + 1 - 1).toNat = k from by omega, List.getElem?_set_self hk]
    cases lost <;> simp [Disp.ended]
  refine ⟨h0, ?_, ?_⟩
  · unfold dEnd; rw [if_neg (by rw [h0]; decide)]
  · unfold dEnded; rw [if_neg (by rw [h0]; decide)]; rfl
theorem ends_facts {L : List Disp} {k : Nat} {a b c d : Int} (again : Bool) (hx : L[k]? = some ⟨a, b, c, d, 1⟩) (h1 : (1 : Int) = 1) (lost : Bool) : ∃ st : Int, (st == 2) = lost ∧ (st == 3) = (!lost) ∧ (st == 1) = false ∧
    dEndErr L (k + 1) = 0 ∧ dEnd L (k + 1) lost = L.set k ⟨a, b, c, d, st⟩ ∧ dEnded L (k + 1) lost = ⟨a, b, c, d, st⟩ ∧
    dEndErr (L.set k ⟨a, b, c, d, st⟩) (k + 1) = 13 ∧ dEnd (L.set k ⟨a, b, c, d, st⟩) (k + 1) again = L.set k ⟨a, b, c, d, st⟩ ∧ dEnded (L.set k ⟨a, b, c, d, st⟩) (k + 1) again = ⟨0, 0, 0, 0, 0⟩ ∧
    (L.set k ⟨a, b, c, d, st⟩)[k]? = some ⟨a, b, c, d, st⟩ ∧ heldOf (L.set k ⟨a, b, c, d, st⟩) = heldOf L - d := by
  have hA := dEnd_at hx rfl lost
  have hB := ends_again (lost := lost) (again := again) hx rfl
  have hk := lt_of_get hx
  refine ⟨if lost then 2 else 3, by cases lost <;> rfl, by cases lost <;> rfl, by cases lost <;> rfl, hA.1, hA.2.2, hA.2.1, hB.1, hB.2.1, hB.2.2, by simp [hk], ?_⟩
  exact heldOf_set hx rfl (by cases lost <;> simp)
theorem endsAt (wh : Int) (n : Nat) (h1 : 0 < n) (h2 : n ≤ 30) : ∃ j : Nat, j < n ∧ wrap64 (1 + wrap64 ((IntKind.u64.wrap wh).tmod n)) = (j : Int) + 1 := by
  have h0 : 0 ≤ IntKind.u64.wrap wh := by simp [IntKind.wrap, IntKind.signed, IntKind.bits]; omega
  have e1 : (IntKind.u64.wrap wh).tmod n = IntKind.u64.wrap wh % n := Int.tmod_eq_emod_of_nonneg h0
  have e2 : 0 ≤ IntKind.u64.wrap wh % (n : Int) := Int.emod_nonneg _ (by omega)
  have e3 : IntKind.u64.wrap wh % (n : Int) < n := Int.emod_lt_of_pos _ (by omega)
  refine ⟨(IntKind.u64.wrap wh % (n : Int)).toNat, by omega, ?_⟩
  rw [e1]
  generalize IntKind.u64.wrap wh % (n : Int) = m at *
  unfold wrap64
  omega
set_option maxRecDepth 100000 in
set_option maxHeartbeats 1600000 in
theorem disputeEnds_walk (w : World) (ad : Option Addr) (cap : Nat) (L : List Int) (hr : Reads w 1 (.slice ad L.length cap) L.length (L.flatMap fun z => [Value.int .i64 z])) (hp : ∀ a ∈ L, (Lit.int .i64 a).wf = true) (_ : L.length ≤ maxLen)
    (wh : Int) (hwh : (Lit.int .i64 wh).wf = true) (lost again : Bool) : Calls Try.prog 3 #[.slice ad L.length cap, .int .i64 wh, .bool lost, .bool again] w fun e w' => e = .returned (.bool true) ∧ Below w.heap.size w w' := by
  by_cases hlen : L.length = 0 ∨ 30 < L.length
  · have few : ∀ (hz : ((L.length : Int) == 0) = true ∨ (((L.length : Int) == 0) = false ∧ 30 < L.length)), Calls Try.prog 3 #[.slice ad L.length cap, .int .i64 wh, .bool lost, .bool again] w fun e w' => e = .returned (.bool true) ∧ Below w.heap.size w w' := by
      clear hr hp
      rintro (hz | ⟨hz, hl⟩) <;>
      · go_enter Try.func3, Try.ntmps3
        go_wp2_with (go_at_call 7; refine (dispNew_in (Below.refl w.heap.size w) (Nat.le_refl _)).mono ?_; rintro e w1 ⟨rfl, hb1, hq1⟩; have Hb1 := Lib.hid hb1; clear hb1 hq1)
        go_wp2_with (go_at_call 8; refine (awake16_any _).mono ?_; rintro e w2 ⟨rfl, hk2⟩; have Hk2 := Lib.hid hk2; clear hk2; go_wp2_with (go_at_call 8; refine (awake16_any _).mono ?_; rintro e w3 ⟨rfl, hk3⟩; have Hk3 := Lib.hid hk3; clear hk3))
        go_ret
        exact ⟨rfl, (BookIn.step (BookIn.step Hb1.out Hk2.out) Hk3.out).2.2.1⟩
    rcases hlen with h | h
    · exact few (.inl (by simpa using h))
    · exact few (.inr ⟨beq_eq_false_iff_ne.2 (by omega), h⟩)
  · have l1 : 0 < L.length := by omega
    have l2 : L.length ≤ 30 := by omega
    have hz : ((L.length : Int) == 0) = false := beq_eq_false_iff_ne.2 (by omega)
    clear hlen
    have Hr := Lib.hid hr; clear hr; have Hp := Lib.hid hp; clear hp
    go_enter Try.func3, Try.ntmps3
    go_wp2_with (go_at_call 7; refine (dispNew_in (Below.refl w.heap.size w) (Nat.le_refl _)).mono ?_; rintro e w1 ⟨rfl, hb1, hq1⟩; have Hb1 := Lib.hid hb1; have Hq1 := Lib.hid hq1; clear hb1 hq1)
    go_wp2_with (go_at_call 8; go_loud (refine (awake16_any _).mono ?_; rintro e w2 ⟨rfl, hk2⟩; have Hb2 := Lib.hid (BookIn.step Hb1.out hk2); clear hk2))
    go_loopw [10, 11] (fun s i wr => ∃ k : Nat, ∃ v, k ≤ L.length ∧ s = .int .i64 (heldOf (endsL L k)) ∧ i = .int .i64 k ∧ BookIn w.heap.size w wr w.heap.size v (endsL L k)) (fun _ i _ => L.length - (intOf i).toNat)
    case atStart => exact ⟨0, _, by omega, rfl, rfl, Hb2.out⟩
    case round =>
      obtain ⟨k, v, hk, rfl, rfl, hbk⟩ := hrel
      have Hbk := Lib.hid hbk; clear hbk
      have ho := endsL_held L k
      obtain ⟨s, hs⟩ : ∃ s, s = heldOf (endsL L k) := ⟨_, rfl⟩
      rw [← hs] at ho ⊢
      have Hs := Lib.hid hs; clear hs
      have ho1 := ho.1
      have ho2 := ho.2.1
      have Ho3 := Lib.hid ho.2.2; clear ho
      by_cases hlt : k < L.length
      · obtain ⟨x, hx⟩ : ∃ x, L[k]? = some x := ⟨L[k], List.getElem?_eq_getElem hlt⟩
        obtain ⟨g, o, rfl, x0⟩ := (Hr.out.below Hbk.out.2.2.1).int hx
        have hxb := wf_i64 (Hp.out x (List.mem_of_getElem? hx))
        have hgd : L.getD k 0 = x := by rw [List.getD_eq_getElem?_getD, hx]; rfl
        obtain ⟨q1, q2, q3⟩ := endsL_open L k (by omega)
        have Hs3 := Ho3
        rw [hgd] at q1 q2 q3
        have hab := endsAmt_bd x
        have hab1 : 1 ≤ wrap64 (1 + wrap64 ((IntKind.u64.wrap x).tmod 1000)) := hab.1
        have hab2 : wrap64 (1 + wrap64 ((IntKind.u64.wrap x).tmod 1000)) ≤ 1000 := hab.2
        have Q1 := Lib.hid q1; have Q2 := Lib.hid q2; have Q3 := Lib.hid q3; have Hgd := Lib.hid hgd; have Hx := Lib.hid hx
        clear q1 q2 q3 hgd hx hab
        go_wp2_with (go_at_call 9; go_loud (refine (dispOpen_in Hbk.out (endsL L (k + 1)) (k + 1) 0 Q1.out Q2.out Q3.out).mono ?_; rintro e w3 ⟨rfl, v3, hb3, _⟩; have Hb3 := Lib.hid hb3; clear hb3))
        go_roundw
        case rel => exact ⟨k + 1, v3, by omega, by rw [Ho3.out, Hgd.out]; rfl, by go_num, Hb3.out⟩
        case measure => simp [intOf]; omega
      · have hkl : k = L.length := by omega
        subst hkl
        obtain ⟨j, hj, ej⟩ : ∃ j : Nat, j < L.length ∧ wrap64 (1 + wrap64 ((IntKind.u64.wrap wh).tmod L.length)) = (j : Int) + 1 := endsAt wh L.length l1 l2
        have hx : (endsL L L.length)[j]? = some ⟨(j : Int) + 1, 1 + (j : Int) % 8, j, endsAmt (L.getD j 0), 1⟩ := by simp [endsL, hj]
        clear hlt
        have Hx := Lib.hid hx; clear hx
        have hab := endsAmt_bd (L.getD j 0)
        generalize endsAmt (L.getD j 0) = amt at Hx hab
        obtain ⟨hab1, hab2⟩ := hab
        obtain ⟨st, s2, s3, s1, q0, q1, q2, r0, r1, r2, g0, g1⟩ := ends_facts again Hx.out rfl lost
        generalize endsL L L.length = E at *
        generalize hE' : E.set j _ = E' at q1 r0 r1 r2 g0 g1
        have Q0 := Lib.hid q0; have Q1 := Lib.hid q1; have Q2 := Lib.hid q2; have R0 := Lib.hid r0; have R1 := Lib.hid r1; have R2 := Lib.hid r2; have G0 := Lib.hid g0; have G1 := Lib.hid g1
        clear q0 q1 q2 r0 r1 r2 g0 g1 hE'
        go_wp2_with (go_at_call 10; ((with_reducible refine (dispEnd_in Hbk.out _ _ _ _ _ _ _ Q1.out Q2.out Q0.out).mono ?_); rintro e w3 ⟨rfl, v3, hb3, _⟩; have Hb3 := Lib.hid hb3; clear hb3))
        go_wp2_with (go_at_call 10; ((with_reducible refine (dispEnd_in (BookIn.step Hb3.out (Keeps.alloc _ _)) _ _ _ _ _ _ _ R1.out R2.out R0.out).mono ?_); rintro e w4 ⟨rfl, v4, hb4, hk4⟩; have Hb4 := Lib.hid hb4; have Hx3 := Lib.hid (BookIn.box Hb3.out hk4); clear hb4 hk4))
        go_wp2_with (go_at_call 11; ((with_reducible refine (dispGet_in (BookIn.step Hb4.out (Keeps.alloc _ _)) _ _ _ _ _ _ G0.out).mono ?_); rintro e w5 ⟨rfl, hb5, hk5⟩; have Hb5 := Lib.hid hb5; have Hx4 := Lib.hid (box_new hk5 (by simp)); have Hx3' := Lib.hid (box_old (box_alloc Hx3.out _) hk5 (by simp)); clear hb5 hk5))
        have l3 : w3.heap.size < w5.heap.size := lt_of_block Hx3'.out
        have l4 : w4.heap.size < w5.heap.size := lt_of_block Hx4.out
        have c3 := fun i => cell_of_cells Hx3'.out i
        have c4 := fun i => cell_of_cells Hx4.out i
        have Hb6 := fun o => Lib.hid (BookIn.step Hb5.out (Keeps.alloc w5 o))
        have hfin : heldOf E - amt = s - amt := by rw [← Hs.out]
        have G1' := Lib.hid (G1.out.trans hfin)
        clear hfin
        go_quiet ((go_at_call 12; exact Calls.quiet_of_same ((dispHeld_in (BookIn.step (Hb6 _).out (Keeps.drewN _ _)) _ G1'.out).mono (fun _ _ h => ⟨h.1, h.2.symm⟩))))
        go_wp2
        go_ret
        exact ⟨rfl, (BookIn.step (Hb6 _).out (Keeps.drewN _ _)).2.2.1⟩
end Go.Proofs.Ytmiafnndoioddaa
