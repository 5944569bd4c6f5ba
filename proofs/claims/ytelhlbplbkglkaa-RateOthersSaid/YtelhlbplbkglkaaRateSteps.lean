/- RateSteps: a rate counts from its day on, up to the next one; of two of one day the later one; others' play no part. -/
import Derived.Test.YtelhlbplbkglkaaRateLaw
import Derived.Test.YtelhlbplbkglkaaRDat2
namespace Go.Proofs.Ytelhlbplbkglkaa
open Go.RowKit
/-- From which day on a rate counts, where last is how many days behind the first one, or -1. -/
def fromOf (last : Int) : Int := if last = -1 then 10957 else 10957 + last
structure StepsL (x y day want last : Int) (R : List Ev) (i : Nat) : Prop where
  len : R.length = i
  lo : -1 ≤ last
  hi : last ≤ 99
  fold : R.foldl (rateStep 1 (10957 + day)) (x, 10957) = (want, fromOf last)
  ok : ∀ e ∈ R, evErr (t08 x y) e = 0
theorem steps_ev {x y : Int} (h0 : 0 ≤ x) (h1 : x ≤ 4095) (h2 : 0 ≤ y) (h3 : y ≤ 4095) {d p a : Int} (hd0 : 0 ≤ d) (hd1 : d ≤ 99) (hp : p = 1 ∨ p = 2) (ha0 : 0 ≤ a) (ha1 : a ≤ 100) : evErr (t08 x y) ⟨6, 10957 + d, p, a, 0⟩ = 0 := by
  have hl : ((t08 x y).trs.length : Int) = 2 := rfl
  have hs : (t08 x y).start = 10957 := rfl
  unfold evErr
  rw [t08_err h0 h1 h2 h3, hl, hs]
  dsimp only
  repeat' split
  all_goals first | rfl | (exfalso; omega)
section
variable {x y day want last : Int} {R : List Ev} {i : Nat} {d : Int}
theorem StepsL.yes (h : StepsL x y day want last R i) (he : evErr (t08 x y) ⟨6, 10957 + d, 1, i, 0⟩ = 0) (h0 : 0 ≤ d) (h1 : d ≤ 99) (h2 : d ≤ day) (h3 : last ≤ d) : StepsL x y day i d (R ++ [⟨6, 10957 + d, 1, i, 0⟩]) (i + 1) := by
  refine ⟨by simp [h.len], by omega, h1, ?_, fun e hm => ?_⟩
  · rw [List.foldl_append, h.fold]
    simp only [List.foldl_cons, List.foldl_nil, rateStep]
    have hf : fromOf last ≤ 10957 + d := by unfold fromOf; split <;> omega
    rw [if_pos ⟨trivial, trivial, by omega, hf⟩]
    unfold fromOf
    rw [if_neg (by omega)]
  · rcases List.mem_append.1 hm with hm | hm
    · exact h.ok e hm
    · rw [List.mem_singleton] at hm; subst hm; exact he
theorem StepsL.no (h : StepsL x y day want last R i) {p : Int} (he : evErr (t08 x y) ⟨6, 10957 + d, p, i, 0⟩ = 0) (h0 : 0 ≤ d) (hn : ¬ (p = 1 ∧ d ≤ day ∧ last ≤ d)) : StepsL x y day want last (R ++ [⟨6, 10957 + d, p, i, 0⟩]) (i + 1) := by
  have hlo := h.lo
  refine ⟨by simp [h.len], h.lo, h.hi, ?_, fun e hm => ?_⟩
  · rw [List.foldl_append, h.fold]
    simp only [List.foldl_cons, List.foldl_nil, rateStep]
    rw [if_neg]
    rintro ⟨_, hp, hd, hf⟩
    refine hn ⟨hp, by omega, ?_⟩
    unfold fromOf at hf
    split at hf <;> omega
  · rcases List.mem_append.1 hm with hm | hm
    · exact h.ok e hm
    · rw [List.mem_singleton] at hm; subst hm; exact he
theorem StepsL.right (h : StepsL x y day want last R i) (h0 : 0 ≤ x) (h1 : x ≤ 4095) (h2 : 0 ≤ y) (h3 : y ≤ 4095) : rightErr (t08 x y) R = 0 := by
  unfold rightErr
  rw [if_pos (t08_err h0 h1 h2 h3)]
  exact evsErr_all h.ok
theorem t08_tr {x y : Int} (h : rightErr (t08 x y) R = 0) : trErr (t08 x y) R 1 = 0 := trErr_0 h (by have : ((t08 x y).trs.length : Int) = 2 := rfl; rw [this]; omega)
theorem StepsL.err (h : StepsL x y day want last R i) (h0 : 0 ≤ x) (h1 : x ≤ 4095) (h2 : 0 ≤ y) (h3 : y ≤ 4095) (d0 : 0 ≤ day) (d1 : day ≤ 99) : daysErr (t08 x y) R 1 (10957 + day) (10957 + day) = 0 ∧ daysErr (t08 x y) R 1 10957 (10957 + day) = 0 := by
  have ht := t08_tr (h.right h0 h1 h2 h3)
  have hs : (t08 x y).start = 10957 := rfl
  exact ⟨daysErr_0 ht (by rw [hs]; omega) (by omega), daysErr_0 ht (by rw [hs]; omega) (by omega)⟩
theorem StepsL.rate (h : StepsL x y day want last R i) : rateAt ((t08 x y).rate0 1) 10957 R 1 (10957 + day) = want := by
  have hr : (t08 x y).rate0 1 = x := rfl
  unfold rateAt
  rw [hr, h.fold]
end
/-- What has been gathered so far, with its length. -/
def GathN (w : World) (M : List Ev) (n : Nat) (v : Value) (W : World) : Prop := W.ownsRow 0 34 5 v n (M.flatMap Ev.cells) ∧ Fresh w W v
set_option maxRecDepth 100000 in
set_option maxHeartbeats 3200000 in
theorem rateSteps_walk (w : World) (a : Int) (_ : (Lit.int .i64 a).wf = true) (b : Int) (_ : (Lit.int .i64 b).wf = true) (ad : Option Addr) (cap : Nat) (D : List Int) (hr : Reads w 1 (.slice ad D.length cap) D.length (D.flatMap (fun z : Int => [Value.int .i64 z]))) (hwf : ∀ a ∈ D, (Lit.int .i64 a).wf = true) (hm : D.length ≤ maxLen) (dy : Int) (_ : (Lit.int .i64 dy).wf = true) :
    Calls Try.prog 8 #[.int .i64 a, .int .i64 b, .slice ad D.length cap, .int .i64 dy] w fun e w' => e = .returned (.bool true) ∧ Below w.heap.size w w' := by
  obtain ⟨i0, hi, hi0, hi1, hi2⟩ := info_parts info_tEvent
  obtain ⟨N, hN⟩ : ∃ N, D.length = N := ⟨_, rfl⟩
  rw [hN] at hr hm ⊢
  have hm' : N ≤ 9223372036854775807 := by unfold maxLen at hm; omega
  obtain ⟨x, hx⟩ : ∃ x, a % 4096 = x := ⟨_, rfl⟩
  obtain ⟨y, hy⟩ : ∃ y, b % 4096 = y := ⟨_, rfl⟩
  have bx0 : 0 ≤ x := by omega
  have bx1 : x ≤ 4095 := by omega
  have by0 : 0 ≤ y := by omega
  have by1 : y ≤ 4095 := by omega
  have hterms := fun W => terms08_any a b W
  rw [hx, hy] at hterms
  obtain ⟨day, hday⟩ : ∃ r, (IntKind.u64.wrap dy).tmod 100 = r := ⟨_, rfl⟩
  have hu0 : 0 ≤ IntKind.u64.wrap dy := by rw [IntKind.wrap_u64]; omega
  have d0 : 0 ≤ day := by rw [← hday]; exact Int.tmod_nonneg _ hu0
  have d1 : day < 100 := by rw [← hday]; exact Int.tmod_lt_of_pos _ (by decide)
  clear hu0
  have Hr := Lib.hid hr; clear hr; have HN := Lib.hid hN; clear hN; have Hm := Lib.hid hm; clear hm; have Hwf := Lib.hid hwf; clear hwf; have Hx := Lib.hid hx; clear hx; have Hy := Lib.hid hy; clear hy; have Hterms := Lib.hid hterms; clear hterms; have Hi := Lib.hid hi; clear hi; have Hi0 := Lib.hid hi0; clear hi0; have Hi1 := Lib.hid hi1; clear hi1; have Hi2 := Lib.hid hi2; clear hi2
  go_enter Try.func8, Try.ntmps8
  go_wp2_with fail
  refine (Hterms.out _).mono ?_
  rintro e w0 ⟨B, rfl, hr0, hk0⟩
  obtain ⟨w1, hw1⟩ : ∃ x, x = w0.alloc (.cells #[.int .i64 0, .slice (some ⟨B, 0, none⟩) 2 2, .int .i64 1, .int .i64 1, .int .i64 0, .int .i64 0, .int .i64 10957] 27) := ⟨_, rfl⟩
  have hk1 : Keeps (fun _ => False) w w1 := by rw [hw1]; exact hk0.nt (Keeps.alloc _ _)
  have htb : ∀ W, Keeps (fun _ => False) w1 W → tbS w0.heap.size (t08 x y) (.slice (some ⟨B, 0, none⟩) 2 2) W := fun W hW => tbS.of (box_old (by rw [hw1]; exact heap_alloc_new w0 _) hW (by simp))
  have hr1 : Reads w1 2 (.slice (some ⟨B, 0, none⟩) 2 2) 2 ((t08 x y).trs.flatMap Tn.cells) := by rw [hw1]; exact hr0.alloc _
  obtain ⟨q0, q1, q2, hq, hc⟩ := hr1.elem Tn.cells_length (k := 0) rfl (by decide)
  simp only [Value.slice.injEq, true_and, Option.some.injEq, Addr.mk.injEq, and_true] at hq
  obtain ⟨⟨rfl, rfl⟩, rfl⟩ := hq
  have cx : w1.cell? ⟨B, 0, none⟩ = some (.int .i64 x) := hc 0 (by decide)
  have cxl := cell_lt cx
  clear hc
  obtain ⟨q0, q1, q2, hq, hc⟩ := hr0.elem Tn.cells_length (k := 0) rfl (by decide)
  simp only [Value.slice.injEq, true_and, Option.some.injEq, Addr.mk.injEq, and_true] at hq
  obtain ⟨⟨rfl, rfl⟩, rfl⟩ := hq
  have cx0 : w0.cell? ⟨B, 0, none⟩ = some (.int .i64 x) := hc 0 (by decide)
  have cxl0 := cell_lt cx0
  clear hc
  obtain ⟨b0, b1, b2, b3, b4, b5, b6⟩ := htb w1 (Keeps.refl _ _)
  have bbl := cell_lt b0
  have Hk0 := Lib.hid hk0; clear hk0; have Hr0 := Lib.hid hr0; clear hr0; have Hk1 := Lib.hid hk1; clear hk1; have Htb := Lib.hid htb; clear htb; have Hr1 := Lib.hid hr1; clear hr1
  go_wp2_with fail
  rw [← hw1]
  have Hw1 := Lib.hid hw1; clear hw1
  go_loopw [10, 11, 12, 13] (fun p q r s wx => ∃ (i : Nat) (R : List Ev) (want last : Int), q = .int .i64 want ∧ r = .int .i64 last ∧ s = .int .i64 (i : Nat) ∧ i ≤ N ∧ i ≤ 20 ∧ StepsL x y day want last R i ∧ GathN w1 R i p wx) (fun _ _ _ s _ => N - (intOf s).toNat)
  case atStart => exact ⟨0, [], x, -1, rfl, rfl, rfl, Nat.zero_le _, Nat.zero_le _, ⟨rfl, by omega, by omega, rfl, by simp⟩, World.ownsRow_nil _ _ _ _, Fresh.nil _⟩
  case round =>
    obtain ⟨i, R, want, last, rfl, rfl, rfl, hiN, hi20, hst, hg⟩ := hrel
    clear b0 b1 b2 b3 b4 b5 b6 bbl cx cxl cx0 cxl0
    obtain ⟨b0, b1, b2, b3, b4, b5, b6⟩ := Htb.out wr hg.2.1
    have bbl := cell_lt b0
    simp only [t08] at b0 b1 b2 b3 b4 b5 b6
    obtain ⟨adv, cv, hv, _, _⟩ := ownsRow_shape hg.1
    subst hv
    have hlo := hst.lo
    have hhi := hst.hi
    by_cases hlt : i < N ∧ i < 20
    · have hlt1 : (i : Int) < (N : Int) := by omega
      have hlt2 : (i : Int) < 20 := by omega
      obtain ⟨z, hz⟩ := get_some (L := D) (k := i) (by rw [HN.out]; omega)
      obtain ⟨g, o, rfl, hc⟩ := (Hr.out.keeps (Hk1.out.nt hg.2.1) (by simp)).int hz
      have hgl := cell_lt hc
      have hzb := wf_i64 (Hwf.out z (List.mem_of_getElem? hz))
      obtain ⟨d, hd⟩ : ∃ r, (IntKind.u64.wrap z).tmod 100 = r := ⟨_, rfl⟩
      have hu0 : 0 ≤ IntKind.u64.wrap z := by rw [IntKind.wrap_u64]; omega
      have hd0 : 0 ≤ d := by rw [← hd]; exact Int.tmod_nonneg _ hu0
      have hd1 : d < 100 := by rw [← hd]; exact Int.tmod_lt_of_pos _ (by decide)
      clear hu0
      by_cases hpar : i % 2 = 0
      · have hp : ((i : Int)).tmod 2 = 0 := by rw [Int.tmod_eq_emod_of_nonneg (by omega)]; omega
        have hev := steps_ev bx0 bx1 by0 by1 (a := (i : Int)) hd0 (by omega) (.inl rfl) (by omega) (by omega)
        by_cases hdd : d ≤ day
        · by_cases hll : last ≤ d
          · have hs2 := hst.yes hev hd0 (by omega) hdd hll
            have Hst := Lib.hid hst; clear hst; have Hg := Lib.hid hg; clear hg; have Hz := Lib.hid hz; clear hz; have Hzb := Lib.hid hzb; clear hzb; have Hev := Lib.hid hev; clear hev; have Hs2 := Lib.hid hs2; clear hs2; have Hpar := Lib.hid hpar; clear hpar
            go_wp2_with (at_builtin; refine wpList_append_row rfl (.tmp 48) (.tmp 58) 35 rfl 0 34 i0 _ 5 40 Try.underlying35 Hi.out Hi0.out Hi1.out Hi2.out rfl (by decide) _ i _ rfl (Hg.out.1.alloc _) _ 1 _ rfl (Reads.litAt _ _ _ 5 1 _ (by first | rfl | simp) rfl) (by simp [Value.oneCell']) (by unfold maxLen; omega) (by omega) (Nat.zero_le _) ?_; intro v4 w4 hown4 hk4 hf4; have hfr4 := (Hg.out.2.keep (Keeps.alloc _ _)).app hk4 hf4; have hg4 : GathN w1 (R ++ [⟨6, 10957 + d, 1, (i : Int), 0⟩]) (i + 1) v4 w4 := ⟨by rw [List.flatMap_append]; exact hown4, hfr4⟩; obtain ⟨ad4, c4, rfl, _, _⟩ := ownsRow_shape hown4; have Hg4 := Lib.hid hg4; clear hown4 hk4 hf4 hfr4 hg4)
            go_roundw
            case rel => exact ⟨i + 1, _, i, d, rfl, rfl, by go_num, by omega, by omega, Hs2.out, Hg4.out⟩
            case measure => simp [intOf]; omega
          · have hs2 := hst.no hev hd0 (by omega)
            have Hst := Lib.hid hst; clear hst; have Hg := Lib.hid hg; clear hg; have Hz := Lib.hid hz; clear hz; have Hzb := Lib.hid hzb; clear hzb; have Hev := Lib.hid hev; clear hev; have Hs2 := Lib.hid hs2; clear hs2; have Hpar := Lib.hid hpar; clear hpar
            go_wp2_with (at_builtin; refine wpList_append_row rfl (.tmp 48) (.tmp 58) 35 rfl 0 34 i0 _ 5 40 Try.underlying35 Hi.out Hi0.out Hi1.out Hi2.out rfl (by decide) _ i _ rfl (Hg.out.1.alloc _) _ 1 _ rfl (Reads.litAt _ _ _ 5 1 _ (by first | rfl | simp) rfl) (by simp [Value.oneCell']) (by unfold maxLen; omega) (by omega) (Nat.zero_le _) ?_; intro v4 w4 hown4 hk4 hf4; have hfr4 := (Hg.out.2.keep (Keeps.alloc _ _)).app hk4 hf4; have hg4 : GathN w1 (R ++ [⟨6, 10957 + d, 1, (i : Int), 0⟩]) (i + 1) v4 w4 := ⟨by rw [List.flatMap_append]; exact hown4, hfr4⟩; obtain ⟨ad4, c4, rfl, _, _⟩ := ownsRow_shape hown4; have Hg4 := Lib.hid hg4; clear hown4 hk4 hf4 hfr4 hg4)
            go_roundw
            case rel => exact ⟨i + 1, _, want, last, rfl, rfl, by go_num, by omega, by omega, Hs2.out, Hg4.out⟩
            case measure => simp [intOf]; omega
        · have hs2 := hst.no hev hd0 (by omega)
          have Hst := Lib.hid hst; clear hst; have Hg := Lib.hid hg; clear hg; have Hz := Lib.hid hz; clear hz; have Hzb := Lib.hid hzb; clear hzb; have Hev := Lib.hid hev; clear hev; have Hs2 := Lib.hid hs2; clear hs2; have Hpar := Lib.hid hpar; clear hpar
          go_wp2_with (at_builtin; refine wpList_append_row rfl (.tmp 48) (.tmp 58) 35 rfl 0 34 i0 _ 5 40 Try.underlying35 Hi.out Hi0.out Hi1.out Hi2.out rfl (by decide) _ i _ rfl (Hg.out.1.alloc _) _ 1 _ rfl (Reads.litAt _ _ _ 5 1 _ (by first | rfl | simp) rfl) (by simp [Value.oneCell']) (by unfold maxLen; omega) (by omega) (Nat.zero_le _) ?_; intro v4 w4 hown4 hk4 hf4; have hfr4 := (Hg.out.2.keep (Keeps.alloc _ _)).app hk4 hf4; have hg4 : GathN w1 (R ++ [⟨6, 10957 + d, 1, (i : Int), 0⟩]) (i + 1) v4 w4 := ⟨by rw [List.flatMap_append]; exact hown4, hfr4⟩; obtain ⟨ad4, c4, rfl, _, _⟩ := ownsRow_shape hown4; have Hg4 := Lib.hid hg4; clear hown4 hk4 hf4 hfr4 hg4)
          go_roundw
          case rel => exact ⟨i + 1, _, want, last, rfl, rfl, by go_num, by omega, by omega, Hs2.out, Hg4.out⟩
          case measure => simp [intOf]; omega
      · have hp : ((i : Int)).tmod 2 = 1 := by rw [Int.tmod_eq_emod_of_nonneg (by omega)]; omega
        have hev := steps_ev bx0 bx1 by0 by1 (a := (i : Int)) hd0 (by omega) (.inr rfl) (by omega) (by omega)
        have hs2 := hst.no hev hd0 (by omega)
        have Hst := Lib.hid hst; clear hst; have Hg := Lib.hid hg; clear hg; have Hz := Lib.hid hz; clear hz; have Hzb := Lib.hid hzb; clear hzb; have Hev := Lib.hid hev; clear hev; have Hs2 := Lib.hid hs2; clear hs2; have Hpar := Lib.hid hpar; clear hpar
        go_wp2_with (at_builtin; refine wpList_append_row rfl (.tmp 48) (.tmp 58) 35 rfl 0 34 i0 _ 5 40 Try.underlying35 Hi.out Hi0.out Hi1.out Hi2.out rfl (by decide) _ i _ rfl (Hg.out.1.alloc _) _ 1 _ rfl (Reads.litAt _ _ _ 5 1 _ (by first | rfl | simp) rfl) (by simp [Value.oneCell']) (by unfold maxLen; omega) (by omega) (Nat.zero_le _) ?_; intro v4 w4 hown4 hk4 hf4; have hfr4 := (Hg.out.2.keep (Keeps.alloc _ _)).app hk4 hf4; have hg4 : GathN w1 (R ++ [⟨6, 10957 + d, 2, (i : Int), 0⟩]) (i + 1) v4 w4 := ⟨by rw [List.flatMap_append]; exact hown4, hfr4⟩; obtain ⟨ad4, c4, rfl, _, _⟩ := ownsRow_shape hown4; have Hg4 := Lib.hid hg4; clear hown4 hk4 hf4 hfr4 hg4)
        go_roundw
        case rel => exact ⟨i + 1, _, want, last, rfl, rfl, by go_num, by omega, by omega, Hs2.out, Hg4.out⟩
        case measure => simp [intOf]; omega
    · have hend := hst.err bx0 bx1 by0 by1 d0 (by omega)
      have hrt := hst.rate
      have hlen := hst.len
      obtain ⟨he1, he2⟩ := hend
      have hs0 : (t08 x y).start = 10957 := rfl
      have hov : onVal (t08 x y) R 1 (10957 + day) = want := by unfold onVal; rw [if_pos he1, hs0, hrt]
      obtain ⟨Q, hQ⟩ : ∃ Q, daysOf (t08 x y) R 1 10957 (10957 + day) = Q := ⟨_, rfl⟩
      obtain ⟨m, hm⟩ : ∃ m : Nat, day = (m : Int) := ⟨day.toNat, by omega⟩
      have hQl : Q.length = m + 1 := by
        rw [← hQ]; unfold daysOf; rw [if_pos he2, daysL_length]; omega
      have hQg : Q[m]? = some want := by
        rw [← hQ]; unfold daysOf; rw [if_pos he2, daysL_get _ _ _ _ _ (by omega), hs0, ← hm, hrt]
      have hon := fun W (hW : Keeps (fun _ => False) wr W) => rateOn_any (t08 x y) (some ⟨B, 0, none⟩) 2 R adv cv 1 (10957 + day) W (Hr1.out.keeps (hg.2.1.nt hW) (by simp)) (by rw [hlen]; exact (Reads.of_owns hg.1).keeps hW (by simp)) (by omega) (by show 2 ≤ 1000000; decide)
      have hdy := fun W (hW : Keeps (fun _ => False) wr W) => rateDays_any (t08 x y) (some ⟨B, 0, none⟩) 2 R adv cv 1 10957 (10957 + day) W (Hr1.out.keeps (hg.2.1.nt hW) (by simp)) (by rw [hlen]; exact (Reads.of_owns hg.1).keeps hW (by simp)) (by omega) (by show 2 ≤ 1000000; decide)
      rw [hov, he1, hlen] at hon
      rw [he2, hQ, hlen, hQl] at hdy
      simp only [Tm.val, t08] at hon hdy
      have hend2 : i < N → ¬ i < 20 := fun h1 h2 => hlt ⟨h1, h2⟩
      subst hm
      have Hst := Lib.hid hst; clear hst; have Hg := Lib.hid hg; clear hg; have Hrt := Lib.hid hrt; clear hrt; have Hlen := Lib.hid hlen; clear hlen; have Hov := Lib.hid hov; clear hov; have HQ := Lib.hid hQ; clear hQ; have HQl := Lib.hid hQl; clear hQl; have HQg := Lib.hid hQg; clear hQg; have He1 := Lib.hid he1; clear he1; have He2 := Lib.hid he2; clear he2; have Hon := Lib.hid hon; clear hon; have Hdy := Lib.hid hdy; clear hdy
      by_cases hiN2 : i < N
      · have e1 : (i : Int) < (N : Int) := by omega
        have e2 : ¬ (i : Int) < 20 := by omega
        clear hlt hend2
        go_wp2_with fail
        refine (Hon.out _ (Keeps.refl _ _)).mono ?_
        rintro e w2 ⟨rfl, hk2⟩
        have Hk2 := Lib.hid hk2
        clear hk2 b0 b1 b2 b3 b4 b5 b6 bbl
        obtain ⟨b0, b1, b2, b3, b4, b5, b6⟩ := Htb.out w2 (Hg.out.2.1.nt Hk2.out)
        have bbl := cell_lt b0
        simp only [t08] at b0 b1 b2 b3 b4 b5 b6
        go_wp2_with fail
        refine (Hdy.out _ Hk2.out).mono ?_
        rintro e w3 ⟨v3, rfl, hr3, hf3⟩
        have Hk3 := Lib.hid (Hk2.out.nt hf3.1)
        obtain ⟨ad3, c3, he3, _, _⟩ := ownsRow_shape hr3
        subst he3
        have Hr3 := Lib.hid (Reads.of_owns hr3)
        clear hr3 hf3
        go_wp2_with fail
        refine (awake08_any _).mono ?_
        rintro e w4 ⟨rfl, hk4⟩
        obtain ⟨g3, o3, he3, hc3⟩ := (Hr3.out.keeps hk4 (by simp)).int (k := .i64) HQg.out
        subst he3
        have hgl3 := cell_lt hc3
        have Hk4 := Lib.hid (Hk3.out.nt hk4)
        clear hk4
        go_wp2
        go_ret
        exact ⟨rfl, ((Hk1.out.nt Hg.out.2.1).nt Hk4.out).below (by simp) (Nat.le_refl _)⟩
      · have e1 : ¬ (i : Int) < (N : Int) := by omega
        clear hlt hend2
        go_wp2_with fail
        refine (Hon.out _ (Keeps.refl _ _)).mono ?_
        rintro e w2 ⟨rfl, hk2⟩
        have Hk2 := Lib.hid hk2
        clear hk2 b0 b1 b2 b3 b4 b5 b6 bbl
        obtain ⟨b0, b1, b2, b3, b4, b5, b6⟩ := Htb.out w2 (Hg.out.2.1.nt Hk2.out)
        have bbl := cell_lt b0
        simp only [t08] at b0 b1 b2 b3 b4 b5 b6
        go_wp2_with fail
        refine (Hdy.out _ Hk2.out).mono ?_
        rintro e w3 ⟨v3, rfl, hr3, hf3⟩
        have Hk3 := Lib.hid (Hk2.out.nt hf3.1)
        obtain ⟨ad3, c3, he3, _, _⟩ := ownsRow_shape hr3
        subst he3
        have Hr3 := Lib.hid (Reads.of_owns hr3)
        clear hr3 hf3
        go_wp2_with fail
        refine (awake08_any _).mono ?_
        rintro e w4 ⟨rfl, hk4⟩
        obtain ⟨g3, o3, he3, hc3⟩ := (Hr3.out.keeps hk4 (by simp)).int (k := .i64) HQg.out
        subst he3
        have hgl3 := cell_lt hc3
        have Hk4 := Lib.hid (Hk3.out.nt hk4)
        clear hk4
        go_wp2
        go_ret
        exact ⟨rfl, ((Hk1.out.nt Hg.out.2.1).nt Hk4.out).below (by simp) (Nat.le_refl _)⟩
end Go.Proofs.Ytelhlbplbkglkaa
