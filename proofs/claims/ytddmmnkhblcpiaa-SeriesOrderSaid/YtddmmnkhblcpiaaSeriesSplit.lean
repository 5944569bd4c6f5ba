/- SeriesSplit: a sum of two spans that touch is both sums; a day's is its balance. -/
import Derived.Test.YtddmmnkhblcpiaaSeries5
namespace Go.Proofs.Ytddmmnkhblcpiaa
open Go.RowKit
/-- Set12, as the program has it. -/
structure Set12 where
  day : Int
  balance : Int
deriving DecidableEq, Inhabited
def Set12.cells (d : Set12) : List Value := [.int .i64 d.day, .int .i64 d.balance]
theorem Set12.cells_length (d : Set12) : d.cells.length = 2 := rfl
theorem Set12.one (L : List Set12) : ∀ u ∈ L.flatMap Set12.cells, u.oneCell' = true := by
  intro u hu
  obtain ⟨d, _, hd⟩ := List.mem_flatMap.1 hu
  simp only [Set12.cells, List.mem_cons, List.not_mem_nil, or_false] at hd
  rcases hd with rfl | rfl <;> rfl
def Set12.wf (a : Set12) : Prop := (Lit.int .i64 a.day).wf = true ∧ (Lit.int .i64 a.balance).wf = true
theorem open_Set12 {H : Type} {enc : TypeId × Value → H} {w : World} {spare : Nat → Bool} {held : Bool} (n : Nat) (cs : List Value) (d : DataW H × List MemPlace) (h : DataW.trod enc Try.prog w 0 spare held n 30 cs = some d) : ∃ a : Set12, cs = a.cells ∧ a.wf := by
  obtain ⟨xs, m, rfl, _, hlen, hxs, hf⟩ := DataW.trod_struct Try.underlying30 h
  have hl : cs.length = 2 := hlen.trans (by kernel_rfl)
  have hx : xs.length = 2 := hxs
  have g0 := hf 0 _ rfl
  rw [show Try.prog.cellsOf _ = 1 from by kernel_rfl, List.getElem?_eq_getElem (show 0 < xs.length by omega)] at g0
  have g1 := hf 1 _ rfl
  rw [show Try.prog.cellsOf _ = 1 from by kernel_rfl, List.getElem?_eq_getElem (show 1 < xs.length by omega)] at g1
  match cs, hl with
  | [c0, c1], _ =>
    obtain ⟨a0, e0, _, w0⟩ := DataW.trod_int Try.underlying3 g0
    simp at e0
    subst e0
    obtain ⟨a1, e1, _, w1⟩ := DataW.trod_int Try.underlying2 g1
    simp at e1
    subst e1
    exact ⟨⟨a0, a1⟩, rfl, w0, w1⟩
theorem umod (x n : Int) (h0 : 0 < n) (h1 : n ≤ 1000000000000) : ∃ k : Nat, (k : Int) < n ∧ wrap64 ((IntKind.u64.wrap x).tmod n) = k := by
  have h2 : 0 ≤ IntKind.u64.wrap x := by simp [IntKind.wrap, IntKind.signed, IntKind.bits]; omega
  have e1 : (IntKind.u64.wrap x).tmod n = IntKind.u64.wrap x % n := Int.tmod_eq_emod_of_nonneg h2
  have e2 : 0 ≤ IntKind.u64.wrap x % n := Int.emod_nonneg _ (by omega)
  have e3 : IntKind.u64.wrap x % n < n := Int.emod_lt_of_pos _ h0
  refine ⟨(IntKind.u64.wrap x % n).toNat, by omega, ?_⟩
  rw [e1]
  generalize IntKind.u64.wrap x % n = m at *
  unfold wrap64
  omega
theorem refSum_add (L : List Turn) (a : Int) (n m : Nat) : refSum L a (n + m) = refSum L a n + refSum L (a + n) m := by
  induction m with
  | zero => simp [refSum]
  | succ m ih => rw [← Nat.add_assoc, refSum, ih, refSum, Int.natCast_add, Int.add_assoc, Int.add_assoc]
theorem refSum_bd' {L : List Turn} {f : Int} (h : SerOk f L) (a : Int) (n : Nat) : 0 ≤ refSum L a n ∧ refSum L a n ≤ n * 1000000000000000 :=
  refSum_bd (fun t ht => ⟨(h.2 t ht).2.2.1, (h.2 t ht).2.2.2⟩) a n
/-- What the four sums are. -/
theorem split_facts {L : List Turn} {f : Int} (h : SerOk f L) (a n m : Nat) (hn : n < 60) (hm : m < 61) (hm0 : 1 ≤ m) :
    ∃ s1 s2 : Int, (0 ≤ s1 ∧ s1 ≤ 100000000000000000) ∧ (0 ≤ s2 ∧ s2 ≤ 100000000000000000) ∧ (sumErr L a (a + n) = 0 ∧ sumVal L a (a + n) = s1) ∧ (sumErr L (a + n + 1) (a + n + m) = 0 ∧ sumVal L (a + n + 1) (a + n + m) = s2) ∧
      (sumErr L a (a + n + m) = 0 ∧ sumVal L a (a + n + m) = s1 + s2) ∧ (sumErr L a a = 0 ∧ sumVal L a a = onT L a) := by
  have key : ∀ (x : Int) (k : Nat), k ≤ 120 → sumErr L x (x + (k : Int)) = 0 ∧ sumVal L x (x + (k : Int)) = refSum L x (k + 1) := fun x k hk => by
    have e := refSum_eq h.1 x (k + 1)
    rw [show x + ((k + 1 : Nat) : Int) - 1 = x + k by omega] at e
    have hb := refSum_bd' h x (k + 1)
    have h0 : sumErr L x (x + (k : Int)) = 0 := by unfold sumErr; rw [if_neg (by omega), if_neg (by rw [← e]; omega)]
    exact ⟨h0, by unfold sumVal; rw [if_pos h0, e]⟩
  obtain ⟨k1, k2⟩ := key a n (by omega)
  obtain ⟨k3, k4⟩ := key (a + n + 1) (m - 1) (by omega)
  rw [show (a : Int) + n + 1 + ((m - 1 : Nat) : Int) = a + n + m by omega] at k3 k4
  rw [show m - 1 + 1 = m by omega] at k4
  obtain ⟨k5, k6⟩ := key a (n + m) (by omega)
  rw [show (a : Int) + ((n + m : Nat) : Int) = a + n + m by omega] at k5 k6
  obtain ⟨k7, k8⟩ := key a 0 (by omega)
  simp only [Int.natCast_zero, Int.add_zero] at k7 k8
  have b1 := refSum_bd' h a (n + 1)
  have b2 := refSum_bd' h (a + n + 1) m
  refine ⟨_, _, ⟨b1.1, by omega⟩, ⟨b2.1, by omega⟩, ⟨k1, k2⟩, ⟨k3, k4⟩, ⟨k5, ?_⟩, ⟨k7, ?_⟩⟩
  · rw [k6, show n + m + 1 = (n + 1) + m by omega, refSum_add]
    congr 2 <;> omega
  · rw [k8, refSum, refSum]; simp
theorem serSetL_length (f : Int) (L : List Turn) (d a : Int) : (serSetL f L d a).length ≤ L.length + 1 := by
  unfold serSetL; split
  · exact setT_length L d a
  · omega
set_option maxRecDepth 100000 in
set_option maxHeartbeats 3200000 in
theorem seriesSplit_walk (w : World) (ad : Option Addr) (cap : Nat) (L : List Set12) (hr : Reads w 2 (.slice ad L.length cap) L.length (L.flatMap Set12.cells)) (hp : ∀ a ∈ L, a.wf) (hm : L.length ≤ maxLen)
    (fr : Int) (hfr : (Lit.int .i64 fr).wf = true) (n : Int) (hnn : (Lit.int .i64 n).wf = true) (m : Int) (hmm : (Lit.int .i64 m).wf = true) :
    Calls Try.prog 3 #[.slice ad L.length cap, .int .i64 fr, .int .i64 n, .int .i64 m] w fun e w' => e = .returned (.bool true) ∧ Below w.heap.size w w' := by
  unfold maxLen at hm
  obtain ⟨a1, ha1, ea1⟩ := umod fr 300 (by omega) (by omega)
  obtain ⟨n1, hn1, en1⟩ := umod n 60 (by omega) (by omega)
  obtain ⟨m1, hm1, em1⟩ := umod m 60 (by omega) (by omega)
  have Hr := Lib.hid hr; clear hr; have Hp := Lib.hid hp; clear hp; have Ea1 := Lib.hid ea1; clear ea1; have En1 := Lib.hid en1; clear en1; have Em1 := Lib.hid em1; clear em1; have Hfr := Lib.hid hfr; clear hfr; have Hnn := Lib.hid hnn; clear hnn; have Hmm := Lib.hid hmm; clear hmm
  go_enter Try.func3, Try.ntmps3
  go_wp2_with (first
    | (go_at_call 7; refine (serNew_in 0 (Below.refl w.heap.size w) (Nat.le_refl _)).mono ?_; rintro e w1 ⟨rfl, hb1, _⟩; have Hb1 := Lib.hid hb1; clear hb1)
    | (go_at_call 8; refine (awake12_any _).mono ?_; rintro e w2 ⟨rfl, hk2⟩; have Hb2 := Lib.hid (SerIn.step Hb1.out hk2); clear hk2))
  go_loopw [10] (fun i wr => ∃ k v M, k ≤ L.length ∧ k ≤ 30 ∧ M.length ≤ k ∧ i = .int .i64 (k : Nat) ∧ SerIn w.heap.size w wr w.heap.size v (clampT 0) M) (fun i _ => L.length - (intOf i).toNat)
  case atStart => exact ⟨0, _, [], Nat.zero_le _, by omega, Nat.le_refl _, rfl, Hb2.out⟩
  case round =>
    obtain ⟨k, v, M, hk, hk30, hMk, rfl, hsp⟩ := hrel
    have Hsp := Lib.hid hsp; clear hsp
    by_cases hlt : k < L.length ∧ k < 30
    · obtain ⟨hlt, h40⟩ := hlt
      obtain ⟨x, hx⟩ : ∃ x, L[k]? = some x := ⟨L[k], List.getElem?_eq_getElem hlt⟩
      obtain ⟨g, o, c, he, hc⟩ := (Hr.out.below Hsp.out.2.2.1).elem Set12.cells_length hx (by decide)
      simp only [Value.slice.injEq, true_and] at he
      obtain ⟨rfl, rfl⟩ := he
      obtain ⟨xd, xb⟩ := x
      have x0 : wr.cell? ⟨g, o + k * 2, none⟩ = some (.int .i64 xd) := hc 0 (by decide)
      have x1 : wr.cell? ⟨g, o + k * 2 + 1, none⟩ = some (.int .i64 xb) := hc 1 (by decide)
      obtain ⟨d1, hd1, ed1⟩ := umod xd 400 (by omega) (by omega)
      obtain ⟨b1, hb1, eb1⟩ := umod xb 1000000 (by omega) (by omega)
      clear hc
      have hdb : wrap64 ((IntKind.u64.wrap xd).tmod 400) ≤ 9223372036854775807 := by rw [ed1]; omega
      clear hb1 hd1 ed1 eb1
      have Hx := Lib.hid hx; clear hx; have Hdb := Lib.hid hdb; clear hdb
      go_wp2
      go_still_tail 17, (by kernel_rfl)
      go_wp2_with (go_at_call 9; refine (serSet_in (Hsp.out.step (Keeps.drew _)) _ _ (by omega) Hdb.out _ _ rfl rfl).mono ?_; rintro e w3 ⟨rfl, v3, hb3, _⟩; have Hb3 := Lib.hid hb3; clear hb3)
      go_roundw
      case rel => exact ⟨k + 1, _, _, by omega, by omega, Nat.le_trans (serSetL_length _ _ _ _) (by omega), by go_num, Hb3.out⟩
      case measure => simp [intOf]; omega
    · have hMb : M.length ≤ 30 := by omega
      obtain ⟨s1, s2, hs1, hs2, f1, f2, f3, f4⟩ := split_facts Hsp.out.1.ok a1 n1 (1 + m1) (by omega) (by omega) (by omega)
      obtain ⟨hs1a, hs1b⟩ := hs1
      obtain ⟨hs2a, hs2b⟩ := hs2
      have hkc : (L.length ≤ k) ∨ (k < L.length ∧ 30 ≤ k) := by omega
      have ec : (a1 : Int) + n1 + ((1 + m1 : Nat) : Int) = a1 + n1 + (1 + m1) := by omega
      rw [ec] at f2 f3
      have F1 := Lib.hid f1; clear f1; have F2 := Lib.hid f2; clear f2; have F3 := Lib.hid f3; clear f3; have F4 := Lib.hid f4; clear f4
      have ea1 := Ea1.out
      have en1 := En1.out
      have em1 := Em1.out
      clear hlt ec
      rcases hkc with hkc | ⟨hkc, hkc'⟩
      all_goals
        go_wp2_with fail
        refine (serSum_in Hsp.out a1 (a1 + n1) (by omega) (by omega) (by omega) _ _ F1.out.2 F1.out.1).mono ?_
        rintro e w3 ⟨rfl, hb3, _⟩
        have Hb3 := Lib.hid hb3; clear hb3
        go_wp2_with fail
        refine (serSum_in Hb3.out (a1 + n1 + 1) (a1 + n1 + (1 + m1)) (by omega) (by omega) (by omega) _ _ F2.out.2 F2.out.1).mono ?_
        rintro e w4 ⟨rfl, hb4, _⟩
        have Hb4 := Lib.hid hb4; clear hb4
        go_wp2_with fail
        refine (serSum_in Hb4.out a1 (a1 + n1 + (1 + m1)) (by omega) (by omega) (by omega) _ _ F3.out.2 F3.out.1).mono ?_
        rintro e w5 ⟨rfl, hb5, _⟩
        have Hb5 := Lib.hid hb5; clear hb5
        go_wp2_with fail
        refine (serSum_in Hb5.out a1 a1 (by omega) (by omega) (by omega) _ _ F4.out.2 F4.out.1).mono ?_
        rintro e w6 ⟨rfl, hb6, _⟩
        have Hb6 := Lib.hid hb6; clear hb6
        go_wp2_with (go_at_call 11; refine (serOn_in Hb6.out a1 (by omega) _ rfl).mono ?_; rintro e w7 ⟨rfl, rfl⟩)
        go_ret
        exact ⟨rfl, Hb6.out.2.2.1⟩
end Go.Proofs.Ytddmmnkhblcpiaa
