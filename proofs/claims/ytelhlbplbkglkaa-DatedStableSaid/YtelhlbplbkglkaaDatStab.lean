/- DatedStable: events of one day stay in the order in which they were added, whatever comes between. -/
import Derived.Test.YtelhlbplbkglkaaDated6
namespace Go.Proofs.Ytelhlbplbkglkaa
open Go.RowKit
/-- By rising days; of one day by rising amounts. -/
def StR (x y : Ev) : Prop := x.day < y.day ∨ (x.day = y.day ∧ x.amount < y.amount)
structure StL (L : List Ev) (i : Nat) : Prop where
  len : L.length = i
  pair : L.Pairwise StR
  amt : ∀ x ∈ L, x.amount ≤ i
  day : ∀ x ∈ L, 10957 ≤ x.day ∧ x.day < 10963
theorem StL.sorted {L : List Ev} {i : Nat} (h : StL L i) : Sorted L := h.pair.imp fun {x y} e => by rcases e with e | ⟨e, _⟩ <;> omega
theorem mem_putL {L : List Ev} {e x : Ev} (h : x ∈ putL L e) : x ∈ L ∨ x = e := by
  unfold putL at h
  rcases List.mem_append.1 h with h | h
  · rcases List.mem_append.1 h with h | h
    · exact .inl (List.mem_of_mem_take h)
    · exact .inr (List.mem_singleton.1 h)
  · exact .inl (List.mem_of_mem_drop h)
theorem StL.put {L : List Ev} {i : Nat} (h : StL L i) (r : Int) (h0 : 0 ≤ r) (h6 : r < 6) : StL (putL L ⟨2, 10957 + r, 0, (i : Int) + 1, 0⟩) (i + 1) := by
  obtain ⟨p1, p2⟩ := putL_parts h.sorted ⟨2, 10957 + r, 0, (i : Int) + 1, 0⟩
  refine ⟨by rw [putL_length, h.len], ?_, fun x hx => ?_, fun x hx => ?_⟩
  · unfold putL
    have hl := h.pair
    rw [← List.take_append_drop (placeOf ((⟨2, 10957 + r, 0, (i : Int) + 1, 0⟩ : Ev)).day L L.length) L, List.pairwise_append] at hl
    obtain ⟨hl1, hl2, hl3⟩ := hl
    rw [List.append_assoc, List.pairwise_append]
    refine ⟨hl1, ?_, fun x hx y hy => ?_⟩
    · show List.Pairwise _ (_ :: _)
      rw [List.pairwise_cons]
      exact ⟨fun x hx => .inl (p2 x hx), hl2⟩
    · rcases List.mem_cons.1 (show y ∈ _ :: _ from hy) with rfl | hy
      · have h1 := p1 x hx
        have h2 := h.amt x (List.mem_of_mem_take hx)
        simp only at h1
        unfold StR
        simp only
        omega
      · exact hl3 x hx y hy
  · rcases mem_putL hx with hx | rfl
    · have := h.amt x hx; omega
    · simp
  · rcases mem_putL hx with hx | rfl
    · exact h.day x hx
    · exact ⟨by show (10957 : Int) ≤ 10957 + r; omega, by show 10957 + r < (10963 : Int); omega⟩
def fourS (g o i p : Nat) (x1 x3 y1 y3 : Int) (w : World) : Prop :=
  w.cell? ⟨g, o + i * 5 + 1, none⟩ = some (.int .i64 x1) ∧ w.cell? ⟨g, o + i * 5 + 3, none⟩ = some (.int .i64 x3) ∧ w.cell? ⟨g, o + p * 5 + 1, none⟩ = some (.int .i64 y1) ∧ w.cell? ⟨g, o + p * 5 + 3, none⟩ = some (.int .i64 y3)
theorem fourS.of {w : World} {n c i p : Nat} {ad : Option Addr} {L : List Ev} (h : Reads w 5 (.slice ad n c) n (L.flatMap Ev.cells)) {x y : Ev} (hx : L[i]? = some x) (hy : L[p]? = some y) : ∃ g o, ad = some ⟨g, o, none⟩ ∧ fourS g o i p x.day x.amount y.day y.amount w := by
  obtain ⟨g, o, c1, he, hc⟩ := h.elem Ev.cells_length hx (by decide)
  obtain ⟨g', o', c1', he', hc'⟩ := h.elem Ev.cells_length hy (by decide)
  simp only [Value.slice.injEq, true_and] at he he'
  obtain ⟨rfl, rfl⟩ := he
  obtain ⟨he1, _⟩ := he'
  simp only [Option.some.injEq, Addr.mk.injEq, and_true] at he1
  obtain ⟨rfl, rfl⟩ := he1
  exact ⟨g, o, rfl, hc 1 (by decide), hc 3 (by decide), hc' 1 (by decide), hc' 3 (by decide)⟩
theorem t17_err : t17.err = 0 := by decide
theorem stab_add {L : List Ev} (hl : L.length < 2000) (d a : Int) (h1 : 10957 ≤ d) (h2 : d ≤ 2932896) (h3 : 1 ≤ a) (h4 : a ≤ 1000000000000000) : addErr t17 L ⟨2, d, 0, a, 0⟩ = 0 ∧ addL t17 L ⟨2, d, 0, a, 0⟩ = putL L ⟨2, d, 0, a, 0⟩ := by
  have h : addErr t17 L ⟨2, d, 0, a, 0⟩ = 0 := by
    have he : evErr t17 ⟨2, d, 0, a, 0⟩ = 0 := by
      unfold evErr
      rw [t17_err]
      have hs : t17.start = 10957 := rfl
      rw [hs]
      dsimp only
      repeat' split
      all_goals first | rfl | (exfalso; omega)
    unfold addErr
    rw [he, if_neg (by decide), if_neg (by omega)]
  exact ⟨h, by unfold addL; rw [if_pos h]⟩
theorem cnt_step (L : List Ev) (a : Int) : (L.filter (fun x => decide (x.day < a + 1))).length = (L.filter (fun x => decide (x.day < a))).length + (L.filter (Want.on a).p).length := by
  induction L with
  | nil => rfl
  | cons x L ih =>
    have hp : ∀ y : Ev, ((Want.on a).p y = true) ↔ y.day = a := fun y => by simp [Want.p]
    simp only [List.filter_cons, decide_eq_true_eq, hp]
    repeat' split
    all_goals first | (exfalso; omega) | omega | (simp only [List.length_cons]; omega)
theorem cnt_all {L : List Ev} {i : Nat} (h : StL L i) : (L.filter (fun x => decide (x.day < 10957 + 6))).length = i := by
  rw [List.filter_eq_self.2 fun x hx => by have := h.day x hx; simp; omega]; exact h.len
theorem cnt_none {L : List Ev} {i : Nat} (h : StL L i) : (L.filter (fun x => decide (x.day < 10957))).length = 0 := by
  rw [List.filter_eq_nil_iff.2 fun x hx => by have := h.day x hx; simp; omega]; rfl
theorem frm_all {L : List Ev} {i : Nat} (h : StL L i) : L.filter (Want.frm 10957).p = L := List.filter_eq_self.2 fun x hx => by have := h.day x hx; simp [Want.p]; omega
theorem on_none {L : List Ev} {i : Nat} (h : StL L i) : L.filter (Want.on 10956).p = [] := List.filter_eq_nil_iff.2 fun x hx => by have := h.day x hx; simp [Want.p]; omega
set_option maxRecDepth 100000 in
set_option maxHeartbeats 1600000 in
theorem datedStable_walk (w : World) (ad : Option Addr) (cap : Nat) (D : List Int) (hr : Reads w 1 (.slice ad D.length cap) D.length (D.flatMap (fun z : Int => [Value.int .i64 z]))) (hwf : ∀ a ∈ D, (Lit.int .i64 a).wf = true) (hm : D.length ≤ maxLen) :
    Calls Try.prog 3 #[.slice ad D.length cap] w fun e w' => e = .returned (.bool true) ∧ Below w.heap.size w w' := by
  obtain ⟨N, hN⟩ : ∃ N, D.length = N := ⟨_, rfl⟩
  rw [hN] at hr hm ⊢
  have hm' : N ≤ 9223372036854775807 := by unfold maxLen at hm; omega
  have Hr := Lib.hid hr; clear hr; have HN := Lib.hid hN; clear hN; have Hm := Lib.hid hm; clear hm; have Hwf := Lib.hid hwf; clear hwf
  go_enter Try.func3, Try.ntmps3
  go_wp2_with (go_at_call 11; (with_reducible refine (terms17_any _).mono ?_); rintro e w1 ⟨B1, rfl, hr1, hk1⟩; have Hr1 := Lib.hid hr1; have Hk1 := Lib.hid hk1; clear hr1 hk1)
  go_wp2_with (go_at_call 10; refine (datNew_any t17 (.slice (some ⟨B1, 0, none⟩) 2 2) _ Hr1.out (by decide)).mono ?_; intro e w2 hp; obtain ⟨B, rfl, hm2⟩ := myNew hp Hk1.out; have Hm2 := Lib.hid hm2; clear hm2 hp; refine haltW ?_)
  refine Lib.hid ?_
  go_wp2_with (go_at_call 12; (with_reducible refine (awake17_any _).mono ?_); rintro e w3 ⟨rfl, hk3⟩; have Hm3 := Lib.hid (Hm2.out.keep hk3); clear hk3; refine haltW ?_)
  refine Lib.hid ?_
  by_cases hbig : 60 < N
  · have hbI : (60 : Int) < (N : Int) := by omega
    go_wp2_with (go_at_call 12; (with_reducible refine (awake17_any _).mono ?_); rintro e w4 ⟨rfl, hk4⟩; have Hm4 := Lib.hid (Hm3.out.keep hk4); clear hk4)
    go_ret
    exact ⟨rfl, Hm4.out.kp.below (by simp) (Nat.le_refl _)⟩
  · have hbI : ¬ (60 : Int) < (N : Int) := by omega
    go_wp2
    go_loopw [4] (fun x wx => ∃ (i : Nat) (L : List Ev), x = .int .i64 (i : Nat) ∧ i ≤ N ∧ StL L i ∧ MyDL w wx B t17 L) (fun x _ => N - (intOf x).toNat)
    case atStart => exact ⟨0, [], rfl, Nat.zero_le _, ⟨rfl, List.Pairwise.nil, by simp, by simp⟩, Hm3.out⟩
    case round =>
      obtain ⟨i, L, rfl, hi, hst, hmy⟩ := hrel
      by_cases hlt : i < N
      · have hltI : (i : Int) < (N : Int) := by omega
        obtain ⟨x, hx⟩ := get_some (L := D) (k := i) (by rw [HN.out]; exact hlt)
        obtain ⟨g, o, rfl, hc⟩ := (Hr.out.keeps hmy.kp (by simp)).int hx
        have Hst := Lib.hid hst; clear hst; have Hmy := Lib.hid hmy; clear hmy; have Hx := Lib.hid hx; clear hx
        have hxb := wf_i64 (Hwf.out x (List.mem_of_getElem? Hx.out))
        obtain ⟨r, hr6⟩ : ∃ r, (IntKind.u64.wrap x).tmod 6 = r := ⟨_, rfl⟩
        have hu0 : 0 ≤ IntKind.u64.wrap x := by rw [IntKind.wrap_u64]; omega
        have hr0 : 0 ≤ r := by rw [← hr6]; exact Int.tmod_nonneg _ hu0
        have hr5 : r < 6 := by rw [← hr6]; exact Int.tmod_lt_of_pos _ (by decide)
        have hadd := stab_add (L := L) (by rw [Hst.out.len]; omega) (10957 + r) ((i : Int) + 1) (by omega) (by omega) (by omega) (by omega)
        have hlen := Hst.out.len
        have Hadd := Lib.hid hadd; clear hadd; have Hlen := Lib.hid hlen; clear hlen; have Hxb := Lib.hid hxb; clear hxb; have Hu0 := Lib.hid hu0; clear hu0
        go_wp2_with (go_at_call 13; refine (myAdd B t17 L ⟨2, 10957 + r, 0, (i : Int) + 1, 0⟩ w _ Hmy.out (by rw [Hlen.out]; omega) (by decide) Hadd.out.1 Hadd.out.2).mono ?_; rintro e w5 ⟨rfl, hm5⟩; have Hm5 := Lib.hid hm5; clear hm5)
        go_roundw
        case rel => exact ⟨i + 1, _, by go_num, by omega, Hst.out.put r hr0 hr5, Hm5.out⟩
        case measure => simp [intOf]; omega
      · obtain rfl : i = N := by omega
        have hl : L.length = i := hst.len
        have Hst := Lib.hid hst; clear hst; have Hmy := Lib.hid hmy; clear hmy; have Hl := Lib.hid hl; clear hl
        go_wp2_with (go_at_call 14; refine (myAll B t17 L w _ Hmy.out (by rw [Hl.out]; omega)).mono ?_; rintro e w5 ⟨v5, rfl, hr5, hk5, _⟩; rw [Hl.out] at hr5; obtain ⟨ad5, c5, he5, _⟩ := id hr5; subst he5; have Hm5 := Lib.hid (Hmy.out.keep hk5); have Hr5 := Lib.hid hr5; clear hk5 hr5; refine haltW ?_)
        refine Lib.hid ?_
        go_wp2
        go_loopw [6] (fun x wx => ∃ (k : Nat), x = .int .i64 (k : Nat) ∧ 1 ≤ k ∧ Keeps (fun _ => False) w5 wx) (fun x _ => i - (intOf x).toNat)
        case atStart => exact ⟨1, rfl, Nat.le_refl _, Keeps.refl _ _⟩
        case round =>
          obtain ⟨k, rfl, hk1, hkp⟩ := hrel
          by_cases hlt2 : k < i
          · obtain ⟨p, rfl⟩ : ∃ p, k = p + 1 := ⟨k - 1, by omega⟩
            have hltI2 : (p : Int) + 1 < (i : Int) := by omega
            obtain ⟨x, hx⟩ := get_some (L := L) (k := p + 1) (by rw [Hl.out]; exact hlt2)
            obtain ⟨y, hy⟩ := get_some (L := L) (k := p) (by rw [Hl.out]; omega)
            have hR : StR y x := by
              obtain ⟨h1, e1⟩ := List.getElem?_eq_some_iff.1 hx
              obtain ⟨h2, e2⟩ := List.getElem?_eq_some_iff.1 hy
              have := List.pairwise_iff_getElem.1 Hst.out.pair p (p + 1) h2 h1 (by omega)
              rwa [e1, e2] at this
            obtain ⟨g, o, rfl, hS⟩ := fourS.of (Hr5.out.keeps (hkp.nt (Keeps.drew wr)) (by simp)) hx hy
            obtain ⟨x0, x1, x2, x3, x4⟩ := x
            obtain ⟨y0, y1, y2, y3, y4⟩ := y
            simp only at hS
            unfold StR at hR
            simp only at hR
            have p0 : (0 : Int) ≤ (p : Int) + 1 := by omega
            have e0 : ((p : Int) + 1).toNat = p + 1 := by omega
            have q3 : (p : Int) < (i : Int) := by omega
            have q9 : IntKind.i64.wrap (p : Int) = (p : Int) := IntWalk.i64_in _ ⟨by omega, by omega⟩
            have Hx := Lib.hid hx; clear hx; have Hy := Lib.hid hy; clear hy; have HS := Lib.hid hS; clear hS; have Hkp := Lib.hid hkp; clear hkp
            by_cases hd : x1 = y1
            · subst hd
              have ha : decide (x3 ≤ y3) = false := by rw [decide_eq_false_iff_not]; omega
              have ha' : y3 < x3 := by omega
              go_wp2_with fail
              refine wp_region_mixw (fourS g o (p + 1) p x1 x3 x1 y3) (.take 0 (.take 1 (.take 2 (.take 3 (.take 4 (.take 5 (.take 6 (.take 7 (.take 8 (.take 9 (.take 10 (.take 11 (.take 12 (.take 13 (.take 14 (.take 15 (.take 16 (.take 17 (.take 18 (.take 19 (.take 20 (.take 21 (.take 22 (.take 23 (.take 24 (.take 25 (.take 26 (.take 27 (.take 28 (.take 29 (.take 30 (.take 31 (.take 32 (.take 33 (.take 34 (.take 35 (.take 36 (.take 37 (.take 38 (.take 39 .done)))))))))))))))))))))))))))))))))))))))) (by kernel_rfl) (by kernel_rfl) ?_ ?_
              · exact HS.out
              intro w6 hs6 hk6
              repeat (first
                | (refine mix_skip rfl (by rfl) ?_; try simp only [Act.put, List.setIfInBounds_toArray, List.set_cons_zero, List.set_cons_succ])
                | (refine mix_skipm rfl (by rfl) ?_; try simp only [Act.put, List.setIfInBounds_toArray, List.set_cons_zero, List.set_cons_succ])
                | (refine mix_take (v := ?_) rfl (by rfl) ?_ ?_; rotate_left; (· intro w' hSw; unfold fourS at hSw; go_simp; (try with_reducible rfl)); rotate_right; try simp only [Act.put, List.setIfInBounds_toArray, List.set_cons_zero, List.set_cons_succ]))
              refine mix_done ?_
              have Hk6 := Lib.hid hk6
              clear hk6 hs6
              go_wp2
              go_roundw
              case rel => exact ⟨p + 1 + 1, by go_num, by omega, Hkp.out.nt Hk6.out⟩
              case measure => simp [intOf]; omega
            · have ha : decide (x1 < y1) = false := by rw [decide_eq_false_iff_not]; omega
              have ha' : (x1 == y1) = false := by simp [hd]
              go_wp2_with fail
              refine wp_region_mixw (fourS g o (p + 1) p x1 x3 y1 y3) (.take 0 (.take 1 (.take 2 (.take 3 (.take 4 (.take 5 (.take 6 (.take 7 (.take 8 (.take 9 (.take 10 (.take 11 (.take 12 (.take 13 (.take 14 (.take 15 (.take 16 (.take 17 (.take 18 (.take 19 (.take 20 (.take 21 (.take 22 (.take 23 (.take 24 (.take 25 (.take 26 (.take 27 (.take 28 (.take 29 (.take 30 (.take 31 (.take 32 (.take 33 (.take 34 (.take 35 (.take 36 (.take 37 (.take 38 (.take 39 .done)))))))))))))))))))))))))))))))))))))))) (by kernel_rfl) (by kernel_rfl) ?_ ?_
              · exact HS.out
              intro w6 hs6 hk6
              repeat (first
                | (refine mix_skip rfl (by rfl) ?_; try simp only [Act.put, List.setIfInBounds_toArray, List.set_cons_zero, List.set_cons_succ])
                | (refine mix_skipm rfl (by rfl) ?_; try simp only [Act.put, List.setIfInBounds_toArray, List.set_cons_zero, List.set_cons_succ])
                | (refine mix_take (v := ?_) rfl (by rfl) ?_ ?_; rotate_left; (· intro w' hSw; unfold fourS at hSw; go_simp; (try with_reducible rfl)); rotate_right; try simp only [Act.put, List.setIfInBounds_toArray, List.set_cons_zero, List.set_cons_succ]))
              refine mix_done ?_
              have Hk6 := Lib.hid hk6
              clear hk6 hs6
              go_wp2
              go_roundw
              case rel => exact ⟨p + 1 + 1, by go_num, by omega, Hkp.out.nt Hk6.out⟩
              case measure => simp [intOf]; omega
          · have hltI2 : ¬ (k : Int) < (i : Int) := by omega
            have hm6 := Hm5.out.keep hkp
            have Hkp := Lib.hid hkp; clear hkp; have Hm6 := Lib.hid hm6; clear hm6
            go_wp2
            go_loopw [7, 8] (fun x y wx => ∃ (d n : Nat), x = .int .i64 (n : Nat) ∧ y = .int .i64 (d : Nat) ∧ d ≤ 6 ∧ n = (L.filter (fun x => decide (x.day < 10957 + (d : Int)))).length ∧ MyDL w wx B t17 L) (fun _ y _ => 6 - (intOf y).toNat)
            case atStart => exact ⟨0, 0, rfl, rfl, by omega, (cnt_none Hst.out).symm, Hm6.out⟩
            case round =>
              obtain ⟨d, n, rfl, rfl, hd6, hn, hm7⟩ := hrel
              have hnl : n ≤ i := by rw [hn, ← Hl.out]; exact List.length_filter_le _ _
              by_cases hlt3 : d < 6
              · have hltI3 : (d : Int) < 6 := by omega
                have hstep := cnt_step L (10957 + (d : Int))
                obtain ⟨q, hq⟩ : ∃ q, (L.filter (Want.on (10957 + (d : Int))).p).length = q := ⟨_, rfl⟩
                have hql : q ≤ i := by rw [← hq, ← Hl.out]; exact List.length_filter_le _ _
                rw [hq, ← hn] at hstep
                have Hn := Lib.hid hn; clear hn; have Hm7 := Lib.hid hm7; clear hm7; have Hstep := Lib.hid hstep; clear hstep; have Hq := Lib.hid hq; clear hq
                go_wp2_with (go_at_call 15; refine (myOn B (10957 + (d : Int)) t17 L w _ Hm7.out (by rw [Hl.out]; omega)).mono ?_; rintro e w8 ⟨v8, rfl, hr8, hk8, _⟩; obtain ⟨ad8, c8, rfl, _⟩ := id hr8; rw [Hq.out] at hr8 ⊢; have Hm8 := Lib.hid (Hm7.out.keep hk8); clear hk8 hr8)
                go_roundw
                case rel => exact ⟨d + 1, n + q, by go_num, by go_num, by omega, by rw [← Hstep.out]; simp only [Int.natCast_add, Int.add_assoc]; rfl, Hm8.out⟩
                case measure => simp [intOf]; omega
              · obtain rfl : d = 6 := by omega
                obtain rfl : n = i := hn.trans (cnt_all Hst.out)
                have h957 := frm_all Hst.out
                have h956 := on_none Hst.out
                have Hn := Lib.hid hn; clear hn; have Hm7 := Lib.hid hm7; clear hm7; have H957 := Lib.hid h957; clear h957; have H956 := Lib.hid h956; clear h956
                go_wp2_with (first
                  | (go_at_call 16; refine (myFrom B 10957 t17 L w _ Hm7.out (by rw [Hl.out]; omega)).mono ?_; rintro e w8 ⟨v8, rfl, hr8, hk8, _⟩; rw [H957.out, Hl.out] at hr8; obtain ⟨ad8, c8, rfl, _⟩ := id hr8; have Hm8 := Lib.hid (Hm7.out.keep hk8); clear hk8 hr8)
                  | (go_at_call 15; refine (myOn B 10956 t17 L w _ Hm8.out (by rw [Hl.out]; omega)).mono ?_; rintro e w9 ⟨v9, rfl, hr9, hk9, _⟩; rw [H956.out] at hr9; obtain ⟨ad9, c9, rfl, _⟩ := id hr9; have Hm9 := Lib.hid (Hm8.out.keep hk9); clear hk9 hr9))
                go_ret
                exact ⟨rfl, Hm9.out.kp.below (by simp) (Nat.le_refl _)⟩
end Go.Proofs.Ytelhlbplbkglkaa
