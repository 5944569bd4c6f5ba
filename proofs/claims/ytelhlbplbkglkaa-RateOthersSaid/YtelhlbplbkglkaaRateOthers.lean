/- RateOthers: what is no change of a rate, or of another tranche's, plays no part. -/
import Derived.Test.YtelhlbplbkglkaaRateSteps
import Derived.Test.YtelhlbplbkglkaaOpenEv
namespace Go.Proofs.Ytelhlbplbkglkaa
open Go.RowKit
structure OthL (x y : Int) (R : List Ev) (i : Nat) : Prop where
  len : R.length = i
  ok : ∀ e ∈ R, evErr (t08 x y) e = 0
  oth : ∀ e ∈ R, ¬ (e.kind = 6 ∧ e.tranche = 1)
section
variable {x y : Int} {R : List Ev} {i : Nat}
theorem OthL.add (h : OthL x y R i) {e : Ev} (he : evErr (t08 x y) e = 0) (ho : ¬ (e.kind = 6 ∧ e.tranche = 1)) : OthL x y (R ++ [e]) (i + 1) := by
  refine ⟨by simp [h.len], fun z hz => ?_, fun z hz => ?_⟩
  · rcases List.mem_append.1 hz with hz | hz
    · exact h.ok z hz
    · rw [List.mem_singleton] at hz; subst hz; exact he
  · rcases List.mem_append.1 hz with hz | hz
    · exact h.oth z hz
    · rw [List.mem_singleton] at hz; subst hz; exact ho
theorem OthL.fold (h : OthL x y R i) (d : Int) (s : Int × Int) : R.foldl (rateStep 1 d) s = s := by
  have : ∀ (R : List Ev), (∀ e ∈ R, ¬ (e.kind = 6 ∧ e.tranche = 1)) → R.foldl (rateStep 1 d) s = s := by
    intro R
    induction R with
    | nil => intro _; rfl
    | cons e R ih =>
      intro h
      rw [List.foldl_cons]
      have he : rateStep 1 d s e = s := by unfold rateStep; rw [if_neg fun hh => h e (List.mem_cons_self ..) ⟨hh.1, hh.2.1⟩]
      rw [he]
      exact ih fun z hz => h z (List.mem_cons_of_mem _ hz)
  exact this R h.oth
theorem OthL.days (h : OthL x y R i) (h0 : 0 ≤ x) (h1 : x ≤ 4095) (h2 : 0 ≤ y) (h3 : y ≤ 4095) {dd : Int} (d0 : 0 ≤ dd) (d1 : dd < 90) : daysErr (t08 x y) R 1 10957 (10957 + dd) = 0 ∧ (daysOf (t08 x y) R 1 10957 (10957 + dd)).length = dd.toNat + 1 ∧ ∀ j : Nat, j < dd.toNat + 1 → (daysOf (t08 x y) R 1 10957 (10957 + dd))[j]? = some x := by
  have hr : rightErr (t08 x y) R = 0 := by unfold rightErr; rw [if_pos (t08_err h0 h1 h2 h3)]; exact evsErr_all h.ok
  have ht := t08_tr hr
  have hs : (t08 x y).start = 10957 := rfl
  have he : daysErr (t08 x y) R 1 10957 (10957 + dd) = 0 := daysErr_0 ht (by rw [hs]; omega) (by omega)
  have hN : (10957 + dd - 10957 + 1).toNat = dd.toNat + 1 := by omega
  refine ⟨he, ?_, fun j hj => ?_⟩
  · unfold daysOf; rw [if_pos he, daysL_length, hN]
  · unfold daysOf
    rw [if_pos he, daysL_get _ _ _ _ _ (by rw [hN]; exact hj)]
    have hr0 : (t08 x y).rate0 1 = x := rfl
    unfold rateAt
    rw [h.fold, hr0]
end
theorem oth_ev {x y : Int} (h0 : 0 ≤ x) (h1 : x ≤ 4095) (h2 : 0 ≤ y) (h3 : y ≤ 4095) {k d p a : Int} (hd0 : 0 ≤ d) (hd1 : d ≤ 99) (hk : (k = 6 ∧ p = 2) ∨ (k = 1 ∧ p = 1)) (ha0 : 1 ≤ a) (ha1 : a ≤ 2000) : evErr (t08 x y) ⟨k, 10957 + d, p, a, 0⟩ = 0 ∧ ¬ ((⟨k, 10957 + d, p, a, 0⟩ : Ev).kind = 6 ∧ (⟨k, 10957 + d, p, a, 0⟩ : Ev).tranche = 1) := by
  have hl : ((t08 x y).trs.length : Int) = 2 := rfl
  have hs : (t08 x y).start = 10957 := rfl
  refine ⟨?_, by show ¬ (k = 6 ∧ p = 1); omega⟩
  unfold evErr
  rw [t08_err h0 h1 h2 h3, hl, hs]
  dsimp only
  repeat' split
  all_goals first | rfl | (exfalso; omega)
def othS (E B g o : Nat) (t : Tm) (v : Value) (x z : Int) (w : World) : Prop := tbS E t v w ∧ w.cell? ⟨B, 0, none⟩ = some (.int .i64 x) ∧ w.cell? ⟨g, o, none⟩ = some (.int .i64 z)
set_option maxRecDepth 100000 in
set_option maxHeartbeats 3200000 in
theorem rateOthers_walk (w : World) (a : Int) (_ : (Lit.int .i64 a).wf = true) (b : Int) (_ : (Lit.int .i64 b).wf = true) (ad : Option Addr) (cap : Nat) (L : List Ev) (hr : Reads w 5 (.slice ad L.length cap) L.length (L.flatMap Ev.cells)) (_ : ∀ a ∈ L, a.wf) (hm : L.length ≤ maxLen) (dz : Int) (_ : (Lit.int .i64 dz).wf = true) :
    Calls Try.prog 9 #[.int .i64 a, .int .i64 b, .slice ad L.length cap, .int .i64 dz] w fun e w' => e = .returned (.bool true) ∧ Below w.heap.size w w' := by
  obtain ⟨i0, hi, hi0, hi1, hi2⟩ := info_parts info_tEvent
  obtain ⟨N, hN⟩ : ∃ N, L.length = N := ⟨_, rfl⟩
  rw [hN] at hr hm ⊢
  have hm' : N ≤ 9223372036854775807 := by unfold maxLen at hm; omega
  obtain ⟨x, hx⟩ : ∃ x, a % 4096 = x := ⟨_, rfl⟩
  obtain ⟨y, hy⟩ : ∃ y, b % 4096 = y := ⟨_, rfl⟩
  have bx0 : 0 ≤ x := by omega
  have bx1 : x ≤ 4095 := by omega
  have by0 : 0 ≤ y := by omega
  have by1 : y ≤ 4095 := by omega
  have hterms := fun W => terms08_any a b W
  rw [hx, hy] at hterms
  obtain ⟨dd, hdd⟩ : ∃ r, (IntKind.u64.wrap dz).tmod 90 = r := ⟨_, rfl⟩
  have hu0 : 0 ≤ IntKind.u64.wrap dz := by rw [IntKind.wrap_u64]; omega
  have d0 : 0 ≤ dd := by rw [← hdd]; exact Int.tmod_nonneg _ hu0
  have d1 : dd < 90 := by rw [← hdd]; exact Int.tmod_lt_of_pos _ (by decide)
  clear hu0
  have Hr := Lib.hid hr; clear hr; have HN := Lib.hid hN; clear hN; have Hm := Lib.hid hm; clear hm; have Hx := Lib.hid hx; clear hx; have Hy := Lib.hid hy; clear hy; have Hterms := Lib.hid hterms; clear hterms; have Hi := Lib.hid hi; clear hi; have Hi0 := Lib.hid hi0; clear hi0; have Hi1 := Lib.hid hi1; clear hi1; have Hi2 := Lib.hid hi2; clear hi2
  go_enter Try.func9, Try.ntmps9
  go_wp2_with fail
  refine (Hterms.out _).mono ?_
  rintro e w0 ⟨B, rfl, hr0, hk0⟩
  obtain ⟨w1, hw1⟩ : ∃ x, x = w0.alloc (.cells #[.int .i64 0, .slice (some ⟨B, 0, none⟩) 2 2, .int .i64 1, .int .i64 1, .int .i64 0, .int .i64 0, .int .i64 10957] 27) := ⟨_, rfl⟩
  have hk1 : Keeps (fun _ => False) w w1 := by rw [hw1]; exact hk0.nt (Keeps.alloc _ _)
  have htb : ∀ W, Keeps (fun _ => False) w1 W → tbS w0.heap.size (t08 x y) (.slice (some ⟨B, 0, none⟩) 2 2) W := fun W hW => tbS.of (box_old (by rw [hw1]; exact heap_alloc_new w0 _) hW (by simp))
  have hr1 : Reads w1 2 (.slice (some ⟨B, 0, none⟩) 2 2) 2 ((t08 x y).trs.flatMap Tn.cells) := by rw [hw1]; exact hr0.alloc _
  obtain ⟨q0, q1, q2, hq, hc⟩ := hr1.elem Tn.cells_length (k := 0) rfl (by decide)
  simp only [Value.slice.injEq, true_and, Option.some.injEq, Addr.mk.injEq, and_true] at hq
  obtain ⟨⟨rfl, rfl⟩, rfl⟩ := hq
  have cx : w1.cell? ⟨B, 0, none⟩ = some (.int .i64 x) := hc 0 (by decide)
  have cxl := cell_lt cx
  clear hc
  obtain ⟨q0, q1, q2, hq, hc⟩ := hr0.elem Tn.cells_length (k := 0) rfl (by decide)
  simp only [Value.slice.injEq, true_and, Option.some.injEq, Addr.mk.injEq, and_true] at hq
  obtain ⟨⟨rfl, rfl⟩, rfl⟩ := hq
  have cx0 : w0.cell? ⟨B, 0, none⟩ = some (.int .i64 x) := hc 0 (by decide)
  have cxl0 := cell_lt cx0
  clear hc
  obtain ⟨b0, b1, b2, b3, b4, b5, b6⟩ := htb w1 (Keeps.refl _ _)
  have bbl := cell_lt b0
  have Hk0 := Lib.hid hk0; clear hk0; have Hr0 := Lib.hid hr0; clear hr0; have Hk1 := Lib.hid hk1; clear hk1; have Htb := Lib.hid htb; clear htb; have Hr1 := Lib.hid hr1; clear hr1
  have Hcx := Lib.hid cx; have Hcxl := Lib.hid cxl
  go_wp2_with fail
  rw [← hw1]
  have Hw1 := Lib.hid hw1; clear hw1
  go_loopw [10, 11] (fun p q wx => ∃ (i : Nat) (R : List Ev), q = .int .i64 (i : Nat) ∧ i ≤ N ∧ i ≤ 30 ∧ OthL x y R i ∧ GathN w1 R i p wx) (fun _ q _ => N - (intOf q).toNat)
  case atStart => exact ⟨0, [], rfl, Nat.zero_le _, Nat.zero_le _, ⟨rfl, by simp, by simp⟩, World.ownsRow_nil _ _ _ _, Fresh.nil _⟩
  case round =>
    obtain ⟨i, R, rfl, hiN, hi30, hoth, hg⟩ := hrel
    clear b0 b1 b2 b3 b4 b5 b6 bbl cx cxl cx0 cxl0
    obtain ⟨b0, b1, b2, b3, b4, b5, b6⟩ := Htb.out wr hg.2.1
    have bbl := cell_lt b0
    simp only [t08] at b0 b1 b2 b3 b4 b5 b6
    obtain ⟨adv, cv, hv, _, _⟩ := ownsRow_shape hg.1
    subst hv
    by_cases hlt : i < N ∧ i < 30
    · have hlt1 : (i : Int) < (N : Int) := by omega
      have hlt2 : (i : Int) < 30 := by omega
      obtain ⟨e, hx⟩ := get_some (L := L) (k := i) (by rw [HN.out]; omega)
      obtain ⟨ge, oe, c', he, hc⟩ := (Hr.out.keeps (Hk1.out.nt hg.2.1) (by simp)).elem Ev.cells_length hx (by decide)
      simp only [Value.slice.injEq, true_and] at he
      obtain ⟨rfl, rfl⟩ := he
      obtain ⟨xk, xd, xt, xa, xf⟩ := e
      have x0 : wr.cell? ⟨ge, oe + i * 5, none⟩ = some (.int .i64 xk) := hc 0 (by decide)
      have x1 : wr.cell? ⟨ge, oe + i * 5 + 1, none⟩ = some (.int .i64 xd) := hc 1 (by decide)
      have x2 : wr.cell? ⟨ge, oe + i * 5 + 2, none⟩ = some (.int .i64 xt) := hc 2 (by decide)
      have x3 : wr.cell? ⟨ge, oe + i * 5 + 3, none⟩ = some (.int .i64 xa) := hc 3 (by decide)
      have x4 : wr.cell? ⟨ge, oe + i * 5 + 4, none⟩ = some (.int .i64 xf) := hc 4 (by decide)
      have hgl := cell_lt x0
      clear hc
      have hand := i64_and1023 xa
      obtain ⟨d, hd⟩ : ∃ r, (IntKind.u64.wrap xd).tmod 60 = r := ⟨_, rfl⟩
      have hu0 : 0 ≤ IntKind.u64.wrap xd := by rw [IntKind.wrap_u64]; omega
      have hd0 : 0 ≤ d := by rw [← hd]; exact Int.tmod_nonneg _ hu0
      have hd1 : d < 60 := by rw [← hd]; exact Int.tmod_lt_of_pos _ (by decide)
      clear hu0
      by_cases hk6 : xk = 6
      · subst hk6
        have hev := oth_ev (k := 6) (p := 2) bx0 bx1 by0 by1 (d := d) (a := 1 + xa % 1024) hd0 (by omega) (.inl ⟨rfl, rfl⟩) (by omega) (by omega)
        have hadd := hoth.add hev.1 hev.2
        have Hev := Lib.hid hev; clear hev; have Hadd := Lib.hid hadd; clear hadd; have Hg := Lib.hid hg; clear hg; have Hoth := Lib.hid hoth; clear hoth; have Hx := Lib.hid hx; clear hx
        go_wp2_with (at_builtin; refine wpList_append_row rfl (.tmp 55) (.tmp 57) 35 rfl 0 34 i0 _ 5 40 Try.underlying35 Hi.out Hi0.out Hi1.out Hi2.out rfl (by decide) _ i _ rfl ((Hg.out.1.alloc _).alloc _) _ 1 _ rfl (Reads.litAt _ _ _ 5 1 _ (by first | rfl | simp) rfl) (by simp [Value.oneCell']) (by unfold maxLen; omega) (by omega) (Nat.zero_le _) ?_; intro v4 w4 hown4 hk4 hf4; have hfr4 := ((Hg.out.2.keep (Keeps.alloc _ _)).keep (Keeps.alloc _ _)).app hk4 hf4; have hg4 : GathN w1 (R ++ [⟨6, 10957 + d, 2, 1 + xa % 1024, 0⟩]) (i + 1) v4 w4 := ⟨by rw [List.flatMap_append]; exact hown4, hfr4⟩; obtain ⟨ad4, c4, rfl, _, _⟩ := ownsRow_shape hown4; have Hg4 := Lib.hid hg4; clear hown4 hk4 hf4 hfr4 hg4)
        go_roundw
        case rel => exact ⟨i + 1, _, by go_num, by omega, by omega, Hadd.out, Hg4.out⟩
        case measure => simp [intOf]; omega
      · have hk6' : (xk == 6) = false := beq_eq_false_iff_ne.2 hk6
        have hev := oth_ev (k := 1) (p := 1) bx0 bx1 by0 by1 (d := d) (a := 1 + xa % 1024) hd0 (by omega) (.inr ⟨rfl, rfl⟩) (by omega) (by omega)
        have hadd := hoth.add hev.1 hev.2
        have Hev := Lib.hid hev; clear hev; have Hadd := Lib.hid hadd; clear hadd; have Hg := Lib.hid hg; clear hg; have Hoth := Lib.hid hoth; clear hoth; have Hx := Lib.hid hx; clear hx
        go_wp2_with (at_builtin; refine wpList_append_row rfl (.tmp 55) (.tmp 57) 35 rfl 0 34 i0 _ 5 40 Try.underlying35 Hi.out Hi0.out Hi1.out Hi2.out rfl (by decide) _ i _ rfl ((Hg.out.1.alloc _).alloc _) _ 1 _ rfl (Reads.litAt _ _ _ 5 1 _ (by first | rfl | simp) rfl) (by simp [Value.oneCell']) (by unfold maxLen; omega) (by omega) (Nat.zero_le _) ?_; intro v4 w4 hown4 hk4 hf4; have hfr4 := ((Hg.out.2.keep (Keeps.alloc _ _)).keep (Keeps.alloc _ _)).app hk4 hf4; have hg4 : GathN w1 (R ++ [⟨1, 10957 + d, 1, 1 + xa % 1024, 0⟩]) (i + 1) v4 w4 := ⟨by rw [List.flatMap_append]; exact hown4, hfr4⟩; obtain ⟨ad4, c4, rfl, _, _⟩ := ownsRow_shape hown4; have Hg4 := Lib.hid hg4; clear hown4 hk4 hf4 hfr4 hg4)
        go_roundw
        case rel => exact ⟨i + 1, _, by go_num, by omega, by omega, Hadd.out, Hg4.out⟩
        case measure => simp [intOf]; omega
    · obtain ⟨he, hlen, hget⟩ := hoth.days bx0 bx1 by0 by1 d0 d1
      have hRl := hoth.len
      have hdy := fun W (hW : Keeps (fun _ => False) wr W) => rateDays_any (t08 x y) (some ⟨B, 0, none⟩) 2 R adv cv 1 10957 (10957 + dd) W (Hr1.out.keeps (hg.2.1.nt hW) (by simp)) (by rw [hRl]; exact (Reads.of_owns hg.1).keeps hW (by simp)) (by omega) (by show 2 ≤ 1000000; decide)
      obtain ⟨Q, hQ⟩ : ∃ Q, daysOf (t08 x y) R 1 10957 (10957 + dd) = Q := ⟨_, rfl⟩
      obtain ⟨m, hm⟩ : ∃ m : Nat, dd = (m : Int) := ⟨dd.toNat, by omega⟩
      have hmm : dd.toNat = m := by omega
      rw [he, hQ, hRl] at hdy
      rw [hQ, hmm] at hlen hget
      rw [hlen] at hdy
      simp only [Tm.val, t08] at hdy
      have HQg := Lib.hid hget
      have hend2 : i < N → ¬ i < 30 := fun h1 h2 => hlt ⟨h1, h2⟩
      subst hm
      clear hget
      have Hoth := Lib.hid hoth; clear hoth; have Hg := Lib.hid hg; clear hg; have HRl := Lib.hid hRl; clear hRl; have HQ := Lib.hid hQ; clear hQ; have Hlen := Lib.hid hlen; clear hlen; have He := Lib.hid he; clear he; have Hdy := Lib.hid hdy; clear hdy
      by_cases hiN2 : i < N
      · have e1 : (i : Int) < (N : Int) := by omega
        have e2 : ¬ (i : Int) < 30 := by omega
        clear hlt hend2
        go_wp2_with fail
        refine (Hdy.out _ (Keeps.refl _ _)).mono ?_
        rintro e w2 ⟨v2, rfl, hr2, hf2⟩
        have Hk2 := Lib.hid hf2.1
        obtain ⟨ad2, c2, he2, _, _⟩ := ownsRow_shape hr2
        subst he2
        have Hr2 := Lib.hid (Reads.of_owns hr2)
        clear hr2 hf2
        go_wp2_with fail
        refine (awake08_any _).mono ?_
        rintro e w3 ⟨rfl, hk3⟩
        have Hr3 := Lib.hid (Hr2.out.keeps hk3 (by simp))
        have Hk3 := Lib.hid (Hk2.out.nt hk3)
        clear hk3 Hr2
        go_wp2
        go_loopw [15] (fun p wx => ∃ j : Nat, p = .int .i64 (j : Nat) ∧ j ≤ m + 1 ∧ Keeps (fun _ => False) w3 wx) (fun p _ => m + 1 - (intOf p).toNat)
        case atStart => exact ⟨0, rfl, Nat.zero_le _, Keeps.refl _ _⟩
        case round =>
          obtain ⟨j, rfl, hj, hk⟩ := hrel
          by_cases hjl : j < m + 1
          · have hjI : (j : Int) < (m : Int) + 1 := by omega
            have hjI2 : (j : Int) < ((m + 1 : Nat) : Int) := by omega
            have hkd := hk.nt (Keeps.drew wr)
            obtain ⟨g3, o3, he3, hc3⟩ := (Hr3.out.keeps hkd (by simp)).int (k := .i64) (HQg.out j hjl)
            subst he3
            have hS : othS w0.heap.size B g3 (o3 + j) (t08 x y) (.slice (some ⟨B, 0, none⟩) 2 2) x x wr.drew := ⟨Htb.out _ (Hg.out.2.1.nt (Hk3.out.nt hkd)), (((Hg.out.2.1.nt (Hk3.out.nt hkd)).cell Hcxl.out (by simp)).trans Hcx.out), hc3⟩
            have Hk := Lib.hid hk; clear hk; have Hkd := Lib.hid hkd; clear hkd; have HS := Lib.hid hS; clear hS
            clear hc3
            go_wp2_with fail
            refine wp_region_mixw (othS w0.heap.size B g3 (o3 + j) (t08 x y) (.slice (some ⟨B, 0, none⟩) 2 2) x x) (.take 0 (.take 1 (.take 2 (.take 3 (.take 4 (.take 5 (.take 6 (.take 7 (.take 8 (.take 9 .done)))))))))) (by kernel_rfl) (by kernel_rfl) ?_ ?_
            · exact HS.out
            intro w4 hs4 hk4
            repeat (first
              | (refine mix_skip rfl (by rfl) ?_; try simp only [Act.put, List.setIfInBounds_toArray, List.set_cons_zero, List.set_cons_succ])
              | (refine mix_skipm rfl (by rfl) ?_; try simp only [Act.put, List.setIfInBounds_toArray, List.set_cons_zero, List.set_cons_succ])
              | (refine mix_take (v := ?_) rfl (by rfl) ?_ ?_; rotate_left; (· intro w' hSw; unfold othS tbS at hSw; go_simp; (try with_reducible rfl)); rotate_right; try simp only [Act.put, List.setIfInBounds_toArray, List.set_cons_zero, List.set_cons_succ]))
            refine mix_done ?_
            have Hk4 := Lib.hid (Hk.out.nt hk4)
            clear hs4 hk4
            go_wp2_with fail
            go_roundw
            case rel => exact ⟨j + 1, by go_num, by omega, Hk4.out⟩
            case measure => simp [intOf]; omega
          · obtain rfl : j = m + 1 := by omega
            have hge : decide ((1 : Int) ≤ (m : Int) + 1) = true := by rw [decide_eq_true_iff]; omega
            have Hk := Lib.hid hk; clear hk
            go_wp2
            go_ret
            exact ⟨rfl, ((Hk1.out.nt Hg.out.2.1).nt (Hk3.out.nt Hk.out)).below (by simp) (Nat.le_refl _)⟩
      · have e1 : ¬ (i : Int) < (N : Int) := by omega
        clear hlt hend2
        go_wp2_with fail
        refine (Hdy.out _ (Keeps.refl _ _)).mono ?_
        rintro e w2 ⟨v2, rfl, hr2, hf2⟩
        have Hk2 := Lib.hid hf2.1
        obtain ⟨ad2, c2, he2, _, _⟩ := ownsRow_shape hr2
        subst he2
        have Hr2 := Lib.hid (Reads.of_owns hr2)
        clear hr2 hf2
        go_wp2_with fail
        refine (awake08_any _).mono ?_
        rintro e w3 ⟨rfl, hk3⟩
        have Hr3 := Lib.hid (Hr2.out.keeps hk3 (by simp))
        have Hk3 := Lib.hid (Hk2.out.nt hk3)
        clear hk3 Hr2
        go_wp2
        go_loopw [15] (fun p wx => ∃ j : Nat, p = .int .i64 (j : Nat) ∧ j ≤ m + 1 ∧ Keeps (fun _ => False) w3 wx) (fun p _ => m + 1 - (intOf p).toNat)
        case atStart => exact ⟨0, rfl, Nat.zero_le _, Keeps.refl _ _⟩
        case round =>
          obtain ⟨j, rfl, hj, hk⟩ := hrel
          by_cases hjl : j < m + 1
          · have hjI : (j : Int) < (m : Int) + 1 := by omega
            have hjI2 : (j : Int) < ((m + 1 : Nat) : Int) := by omega
            have hkd := hk.nt (Keeps.drew wr)
            obtain ⟨g3, o3, he3, hc3⟩ := (Hr3.out.keeps hkd (by simp)).int (k := .i64) (HQg.out j hjl)
            subst he3
            have hS : othS w0.heap.size B g3 (o3 + j) (t08 x y) (.slice (some ⟨B, 0, none⟩) 2 2) x x wr.drew := ⟨Htb.out _ (Hg.out.2.1.nt (Hk3.out.nt hkd)), (((Hg.out.2.1.nt (Hk3.out.nt hkd)).cell Hcxl.out (by simp)).trans Hcx.out), hc3⟩
            have Hk := Lib.hid hk; clear hk; have Hkd := Lib.hid hkd; clear hkd; have HS := Lib.hid hS; clear hS
            clear hc3
            go_wp2_with fail
            refine wp_region_mixw (othS w0.heap.size B g3 (o3 + j) (t08 x y) (.slice (some ⟨B, 0, none⟩) 2 2) x x) (.take 0 (.take 1 (.take 2 (.take 3 (.take 4 (.take 5 (.take 6 (.take 7 (.take 8 (.take 9 .done)))))))))) (by kernel_rfl) (by kernel_rfl) ?_ ?_
            · exact HS.out
            intro w4 hs4 hk4
            repeat (first
              | (refine mix_skip rfl (by rfl) ?_; try simp only [Act.put, List.setIfInBounds_toArray, List.set_cons_zero, List.set_cons_succ])
              | (refine mix_skipm rfl (by rfl) ?_; try simp only [Act.put, List.setIfInBounds_toArray, List.set_cons_zero, List.set_cons_succ])
              | (refine mix_take (v := ?_) rfl (by rfl) ?_ ?_; rotate_left; (· intro w' hSw; unfold othS tbS at hSw; go_simp; (try with_reducible rfl)); rotate_right; try simp only [Act.put, List.setIfInBounds_toArray, List.set_cons_zero, List.set_cons_succ]))
            refine mix_done ?_
            have Hk4 := Lib.hid (Hk.out.nt hk4)
            clear hs4 hk4
            go_wp2_with fail
            go_roundw
            case rel => exact ⟨j + 1, by go_num, by omega, Hk4.out⟩
            case measure => simp [intOf]; omega
          · obtain rfl : j = m + 1 := by omega
            have hge : decide ((1 : Int) ≤ (m : Int) + 1) = true := by rw [decide_eq_true_iff]; omega
            have Hk := Lib.hid hk; clear hk
            go_wp2
            go_ret
            exact ⟨rfl, ((Hk1.out.nt Hg.out.2.1).nt (Hk3.out.nt Hk.out)).below (by simp) (Nat.le_refl _)⟩
end Go.Proofs.Ytelhlbplbkglkaa
