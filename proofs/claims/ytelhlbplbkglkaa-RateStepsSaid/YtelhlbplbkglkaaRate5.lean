/- The document's rate of a day. -/
import Derived.Test.YtelhlbplbkglkaaRate4
import Derived.Test.YtelhlbplbkglkaaBx
namespace Go.Proofs.Ytelhlbplbkglkaa
open Go.RowKit
def trS (E : Nat) (t : Tm) (v : Value) (g o : Nat) (r : Int) (w : World) : Prop := tbS E t v w ∧ w.cell? ⟨g, o, none⟩ = some (.int .i64 r)
theorem rate_step_yes {tr d : Int} {s s' : Int × Int} {L : List Ev} {i : Nat} {x : Ev} (hx : L[i]? = some x) (h : (L.take i).foldl (rateStep tr d) s = s') (hm : x.kind = 6 ∧ x.tranche = tr ∧ x.day ≤ d ∧ s'.2 ≤ x.day) : (L.take (i + 1)).foldl (rateStep tr d) s = (x.amount, x.day) := by
  rw [take_snoc' hx, List.foldl_append, h]
  simp only [List.foldl_cons, List.foldl_nil, rateStep]
  rw [if_pos hm]
theorem rate_step_no {tr d : Int} {s s' : Int × Int} {L : List Ev} {i : Nat} {x : Ev} (hx : L[i]? = some x) (h : (L.take i).foldl (rateStep tr d) s = s') (hm : ¬ (x.kind = 6 ∧ x.tranche = tr ∧ x.day ≤ d ∧ s'.2 ≤ x.day)) : (L.take (i + 1)).foldl (rateStep tr d) s = s' := by
  rw [take_snoc' hx, List.foldl_append, h]
  simp only [List.foldl_cons, List.foldl_nil, rateStep]
  rw [if_neg hm]
set_option maxRecDepth 100000 in
set_option maxHeartbeats 1600000 in
theorem rrateOne_any (t : Tm) (adt : Option Addr) (ct : Nat) (L : List Ev) (ad : Option Addr) (cap : Nat) (tr d : Int) (w : World) (htr : Reads w 2 (.slice adt t.trs.length ct) t.trs.length (t.trs.flatMap Tn.cells)) (hr : Reads w 5 (.slice ad L.length cap) L.length (L.flatMap Ev.cells)) (hl : L.length ≤ 1000000) (htl : t.trs.length ≤ 1000000)
    (ht1 : 1 ≤ tr) (ht2 : tr ≤ t.trs.length) :
    Calls Try.prog 50 #[t.val (.slice adt t.trs.length ct), .slice ad L.length cap, .int .i64 tr, .int .i64 d] w fun e w' => e = .returned (.int .i64 (rateAt (t.rate0 tr) t.start L tr d)) ∧ Keeps (fun _ => False) w w' := by
  obtain ⟨m, hm⟩ : ∃ m : Nat, (m : Int) = tr - 1 := ⟨(tr - 1).toNat, by omega⟩
  obtain ⟨x, hx⟩ := get_some (L := t.trs) (k := m) (by omega)
  have hr0 : t.rate0 tr = x.rate := by unfold Tm.rate0; rw [show (tr - 1).toNat = m by omega, hx]
  obtain ⟨g, o, hg, hS⟩ : ∃ g o, adt = some ⟨g, o, none⟩ ∧ ∀ W, Keeps (fun _ => False) (w.alloc (.cells #[.int .i64 t.limit, .slice adt t.trs.length ct, .int .i64 t.cyc, .int .i64 t.due, .int .i64 t.minFixed, .int .i64 t.minPart, .int .i64 t.start] 27)) W → trS w.heap.size t (.slice adt t.trs.length ct) g (o + m * 2) x.rate W := by
    obtain ⟨g, o, c', he, _⟩ := htr.elem Tn.cells_length hx (by decide)
    simp only [Value.slice.injEq, true_and] at he
    obtain ⟨rfl, rfl⟩ := he
    refine ⟨g, o, rfl, fun W hW => ⟨tbS.of (box_old (heap_alloc_new w _) hW (by simp)), ?_⟩⟩
    obtain ⟨g', o', c', he, hc⟩ := (htr.keeps ((Keeps.alloc w _).nt hW) (by simp)).elem Tn.cells_length hx (by decide)
    simp only [Value.slice.injEq, true_and, Option.some.injEq, Addr.mk.injEq, and_true] at he
    obtain ⟨⟨rfl, rfl⟩, rfl⟩ := he
    exact hc 0 (by decide)
  subst hg
  obtain ⟨r0, xg⟩ := x
  simp only at hr0 hS
  obtain ⟨nt, hnt⟩ : ∃ n, t.trs.length = n := ⟨_, rfl⟩
  obtain ⟨n, hn⟩ : ∃ n, L.length = n := ⟨_, rfl⟩
  obtain ⟨z, hz⟩ : ∃ z, rateAt (t.rate0 tr) t.start L tr d = z := ⟨_, rfl⟩
  rw [hz]
  rw [hr0] at hz
  rw [hnt] at htr ht2 htl hS ⊢
  rw [hn] at hr hl ⊢
  have p0 : (0 : Int) ≤ tr - 1 := by omega
  have p1 : tr - 1 < (nt : Int) := by omega
  have p2 : (tr - 1).toNat = m := by omega
  have p3 : IntKind.i64.wrap (tr - 1) = tr - 1 := IntWalk.i64_in _ ⟨by omega, by omega⟩
  simp only [Tm.val]
  have Hr := Lib.hid hr; clear hr; have Htr := Lib.hid htr; clear htr; have Hx := Lib.hid hx; clear hx; have Hm := Lib.hid hm; clear hm; have Hr0 := Lib.hid hr0; clear hr0; have Hnt := Lib.hid hnt; clear hnt; have Hn := Lib.hid hn; clear hn; have Hz := Lib.hid hz; clear hz; have HS := Lib.hid hS; clear hS
  go_enter Try.func50, Try.ntmps50
  go_wp2_with fail
  refine wp_region_mixw (trS w.heap.size t (.slice (some ⟨g, o, none⟩) nt ct) g (o + m * 2) r0) (.take 0 (.take 1 (.take 2 (.take 3 (.take 4 (.take 5 (.take 6 (.take 7 (.take 8 (.take 9 (.take 10 .done))))))))))) (by kernel_rfl) (by kernel_rfl) ?_ ?_
  · exact HS.out _ (Keeps.drew _)
  intro w1 hs1 hk1
  repeat (first
    | (refine mix_skip rfl (by rfl) ?_; try simp only [Act.put, List.setIfInBounds_toArray, List.set_cons_zero, List.set_cons_succ])
    | (refine mix_skipm rfl (by rfl) ?_; try simp only [Act.put, List.setIfInBounds_toArray, List.set_cons_zero, List.set_cons_succ])
    | (refine mix_take (v := ?_) rfl (by rfl) ?_ ?_; rotate_left; (· intro w' hSw; unfold trS tbS at hSw; go_simp; (try with_reducible rfl)); rotate_right; try simp only [Act.put, List.setIfInBounds_toArray, List.set_cons_zero, List.set_cons_succ]))
  refine mix_done ?_
  have Hk1 := Lib.hid hk1
  clear hs1 hk1
  go_wp2
  go_loopw [9, 10, 11] (fun x y q wx => ∃ (i : Nat) (r f : Int), x = .int .i64 r ∧ y = .int .i64 f ∧ q = .int .i64 (i : Nat) ∧ i ≤ n ∧ (L.take i).foldl (rateStep tr d) (r0, t.start) = (r, f) ∧ Keeps (fun _ => False) w1 wx) (fun _ _ q _ => n - (intOf q).toNat)
  case atStart => exact ⟨0, r0, t.start, rfl, rfl, rfl, Nat.zero_le _, rfl, Keeps.refl _ _⟩
  case round =>
    obtain ⟨i, r, f, rfl, rfl, rfl, hin, hf, hk⟩ := hrel
    have hkw := (Keeps.alloc (S := fun _ => False) w (.cells #[.int .i64 t.limit, .slice (some ⟨g, o, none⟩) nt ct, .int .i64 t.cyc, .int .i64 t.due, .int .i64 t.minFixed, .int .i64 t.minPart, .int .i64 t.start] 27)).nt (Hk1.out.nt hk)
    by_cases hlt : i < n
    · have hltI : (i : Int) < (n : Int) := by omega
      obtain ⟨x, hx⟩ := get_some (L := L) (k := i) (by rw [Hn.out]; exact hlt)
      obtain ⟨ge, oe, c', he, hc⟩ := (Hr.out.keeps hkw (by simp)).elem Ev.cells_length hx (by decide)
      simp only [Value.slice.injEq, true_and] at he
      obtain ⟨rfl, rfl⟩ := he
      by_cases hm : x.kind = 6 ∧ x.tranche = tr ∧ x.day ≤ d ∧ f ≤ x.day
      · have hf2 := rate_step_yes hx hf hm
        obtain ⟨xk, xd, xt, xa, xf⟩ := x
        obtain ⟨m1, m2, m3, m4⟩ := hm
        simp only at m1 m2 m3 m4 hf2
        subst m1 m2
        have x0 : wr.cell? ⟨ge, oe + i * 5, none⟩ = some (.int .i64 6) := hc 0 (by decide)
        have x1 : wr.cell? ⟨ge, oe + i * 5 + 1, none⟩ = some (.int .i64 xd) := hc 1 (by decide)
        have x2 : wr.cell? ⟨ge, oe + i * 5 + 2, none⟩ = some (.int .i64 xt) := hc 2 (by decide)
        have x3 : wr.cell? ⟨ge, oe + i * 5 + 3, none⟩ = some (.int .i64 xa) := hc 3 (by decide)
        have x4 : wr.cell? ⟨ge, oe + i * 5 + 4, none⟩ = some (.int .i64 xf) := hc 4 (by decide)
        have hgl := cell_lt x0
        have hS2 : ∀ W, Keeps (fun _ => False) (wr.alloc (.cells #[.int .i64 6, .int .i64 xd, .int .i64 xt, .int .i64 xa, .int .i64 xf] 34)) W → bxS wr.heap.size 6 xd xt xa xf W := fun W hW => bxS.of (box_old (heap_alloc_new wr _) hW (by simp))
        clear hc
        have Hf2 := Lib.hid hf2; clear hf2; have Hf := Lib.hid hf; clear hf; have Hk := Lib.hid hk; clear hk; have Hkw := Lib.hid hkw; clear hkw; have Hx := Lib.hid hx; clear hx; have HS2 := Lib.hid hS2; clear hS2
        go_wp2_with fail
        refine wp_region_mixw (bxS wr.heap.size 6 xd xt xa xf) (.take 0 (.take 1 (.take 2 (.take 3 (.take 4 (.take 5 .done)))))) (by kernel_rfl) (by kernel_rfl) ?_ ?_
        · exact HS2.out _ (Keeps.drew _)
        intro w2 hs2 hk2
        repeat (first
          | (refine mix_skip rfl (by rfl) ?_; try simp only [Act.put, List.setIfInBounds_toArray, List.set_cons_zero, List.set_cons_succ])
          | (refine mix_skipm rfl (by rfl) ?_; try simp only [Act.put, List.setIfInBounds_toArray, List.set_cons_zero, List.set_cons_succ])
          | (refine mix_take (v := ?_) rfl (by rfl) ?_ ?_; rotate_left; (· intro w' hSw; unfold bxS at hSw; go_simp; (try with_reducible rfl)); rotate_right; try simp only [Act.put, List.setIfInBounds_toArray, List.set_cons_zero, List.set_cons_succ]))
        refine mix_done ?_
        have Hk2 := Lib.hid (Hk.out.nt ((Keeps.alloc _ _).nt hk2))
        clear hs2 hk2
        go_wp2
        go_roundw
        case rel => exact ⟨i + 1, xa, xd, rfl, rfl, by go_num, by omega, Hf2.out, Hk2.out⟩
        case measure => simp [intOf]; omega
      · have hf2 := rate_step_no hx hf hm
        obtain ⟨xk, xd, xt, xa, xf⟩ := x
        simp only at hm
        have x0 : wr.cell? ⟨ge, oe + i * 5, none⟩ = some (.int .i64 xk) := hc 0 (by decide)
        have x1 : wr.cell? ⟨ge, oe + i * 5 + 1, none⟩ = some (.int .i64 xd) := hc 1 (by decide)
        have x2 : wr.cell? ⟨ge, oe + i * 5 + 2, none⟩ = some (.int .i64 xt) := hc 2 (by decide)
        have x3 : wr.cell? ⟨ge, oe + i * 5 + 3, none⟩ = some (.int .i64 xa) := hc 3 (by decide)
        have x4 : wr.cell? ⟨ge, oe + i * 5 + 4, none⟩ = some (.int .i64 xf) := hc 4 (by decide)
        have hgl := cell_lt x0
        clear hc
        have Hf2 := Lib.hid hf2; clear hf2; have Hf := Lib.hid hf; clear hf; have Hk := Lib.hid hk; clear hk; have Hkw := Lib.hid hkw; clear hkw; have Hx := Lib.hid hx; clear hx
        by_cases m1 : xk = 6
        · subst m1
          by_cases m2 : xt = tr
          · subst m2
            by_cases m3 : xd ≤ d
            · have m4 : ¬ f ≤ xd := by omega
              clear hm
              go_wp2
              go_roundw
              case rel => exact ⟨i + 1, r, f, rfl, rfl, by go_num, by omega, Hf2.out, Hk.out.nt (by (repeat (first | exact Keeps.refl _ _ | exact Keeps.alloc _ _ | exact Keeps.drew _ | exact Keeps.drewN _ _ | refine Keeps.trans_drew ?_ | refine Keeps.trans_drewN ?_ | refine Keeps.trans_alloc ?_)))⟩
              case measure => simp [intOf]; omega
            · clear hm
              go_wp2
              go_roundw
              case rel => exact ⟨i + 1, r, f, rfl, rfl, by go_num, by omega, Hf2.out, Hk.out.nt (by (repeat (first | exact Keeps.refl _ _ | exact Keeps.alloc _ _ | exact Keeps.drew _ | exact Keeps.drewN _ _ | refine Keeps.trans_drew ?_ | refine Keeps.trans_drewN ?_ | refine Keeps.trans_alloc ?_)))⟩
              case measure => simp [intOf]; omega
          · have m2' : (xt == tr) = false := beq_eq_false_iff_ne.2 m2
            clear hm
            go_wp2
            go_roundw
            case rel => exact ⟨i + 1, r, f, rfl, rfl, by go_num, by omega, Hf2.out, Hk.out.nt (by (repeat (first | exact Keeps.refl _ _ | exact Keeps.alloc _ _ | exact Keeps.drew _ | exact Keeps.drewN _ _ | refine Keeps.trans_drew ?_ | refine Keeps.trans_drewN ?_ | refine Keeps.trans_alloc ?_)))⟩
            case measure => simp [intOf]; omega
        · have m1' : (xk == 6) = false := beq_eq_false_iff_ne.2 m1
          clear hm
          go_wp2
          go_roundw
          case rel => exact ⟨i + 1, r, f, rfl, rfl, by go_num, by omega, Hf2.out, Hk.out.nt (by (repeat (first | exact Keeps.refl _ _ | exact Keeps.alloc _ _ | exact Keeps.drew _ | exact Keeps.drewN _ _ | refine Keeps.trans_drew ?_ | refine Keeps.trans_drewN ?_ | refine Keeps.trans_alloc ?_)))⟩
          case measure => simp [intOf]; omega
    · obtain rfl : i = n := by omega
      rw [List.take_of_length_le (by rw [Hn.out]; exact Nat.le_refl _)] at hf
      have h := Hz.out
      unfold rateAt at h
      rw [hf] at h
      simp only at h
      subst h
      have Hf := Lib.hid hf; clear hf; have Hk := Lib.hid hk; clear hk; have Hkw := Lib.hid hkw; clear hkw
      go_wp2
      go_ret
      exact ⟨rfl, Hkw.out⟩
end Go.Proofs.Ytelhlbplbkglkaa
