/- DatedPlays: whatever is added: each answer, all of them in order, those of any day, and of any day on; a fork goes on by itself. -/
import Derived.Test.YtelhlbplbkglkaaTwo
import Derived.Test.YtelhlbplbkglkaaOwnEv
import Derived.Test.YtelhlbplbkglkaaOpenEv
import Derived.Test.YtelhlbplbkglkaaEvent2
namespace Go.Proofs.Ytelhlbplbkglkaa
open Go.RowKit
theorem addErr_few {t : Tm} {L : List Ev} {e : Ev} (h : L.length < 2000) : addErr t L e = evErr t e := by
  unfold addErr
  by_cases hz : evErr t e = 0
  · rw [if_neg (by simp [hz]), if_neg (by omega), hz]
  · rw [if_pos hz]
/-- What the law's loop reads: the terms' box, and an event. -/
def plS (E : Nat) (li cy du mf mp st : Int) (v : Value) (g o : Nat) (ki da tr am re : Int) (w : World) : Prop :=
  w.cell? ⟨E, 0, none⟩ = some (.int .i64 li) ∧ w.cell? ⟨E, 1, none⟩ = some v ∧ w.cell? ⟨E, 2, none⟩ = some (.int .i64 cy) ∧ w.cell? ⟨E, 3, none⟩ = some (.int .i64 du) ∧ w.cell? ⟨E, 4, none⟩ = some (.int .i64 mf) ∧ w.cell? ⟨E, 5, none⟩ = some (.int .i64 mp) ∧ w.cell? ⟨E, 6, none⟩ = some (.int .i64 st) ∧
  w.cell? ⟨g, o, none⟩ = some (.int .i64 ki) ∧ w.cell? ⟨g, o + 1, none⟩ = some (.int .i64 da) ∧ w.cell? ⟨g, o + 2, none⟩ = some (.int .i64 tr) ∧ w.cell? ⟨g, o + 3, none⟩ = some (.int .i64 am) ∧ w.cell? ⟨g, o + 4, none⟩ = some (.int .i64 re)
theorem plS.keep {E : Nat} {li cy du mf mp st : Int} {v : Value} {g o : Nat} {ki da tr am re : Int} {w w' : World} (h : plS E li cy du mf mp st v g o ki da tr am re w) (hk : Keeps (fun _ => False) w w') : plS E li cy du mf mp st v g o ki da tr am re w' := by
  obtain ⟨h0, h1, h2, h3, h4, h5, h6, e0, e1, e2, e3, e4⟩ := h
  exact ⟨(hk.cell (cell_lt h0) (by simp)).trans h0, (hk.cell (cell_lt h1) (by simp)).trans h1, (hk.cell (cell_lt h2) (by simp)).trans h2, (hk.cell (cell_lt h3) (by simp)).trans h3, (hk.cell (cell_lt h4) (by simp)).trans h4, (hk.cell (cell_lt h5) (by simp)).trans h5, (hk.cell (cell_lt h6) (by simp)).trans h6,
    (hk.cell (cell_lt e0) (by simp)).trans e0, (hk.cell (cell_lt e1) (by simp)).trans e1, (hk.cell (cell_lt e2) (by simp)).trans e2, (hk.cell (cell_lt e3) (by simp)).trans e3, (hk.cell (cell_lt e4) (by simp)).trans e4⟩
set_option maxRecDepth 100000 in
set_option maxHeartbeats 3200000 in
theorem datedPlays_walk (w : World) (t : Tm) (adt : Option Addr) (ct : Nat) (htr : Reads w 2 (.slice adt t.trs.length ct) t.trs.length (t.trs.flatMap Tn.cells)) (htm : t.trs.length ≤ maxLen)
    (ad : Option Addr) (cap : Nat) (E : List Ev) (hr : Reads w 5 (.slice ad E.length cap) E.length (E.flatMap Ev.cells)) (_ : ∀ a ∈ E, a.wf) (hm : E.length ≤ maxLen) (ask : Int) (_ : (Lit.int .i64 ask).wf = true) (fk : Int) (_ : (Lit.int .i64 fk).wf = true) :
    Calls Try.prog 4 #[t.val (.slice adt t.trs.length ct), .slice ad E.length cap, .int .i64 ask, .int .i64 fk] w fun e w' => e = .returned (.bool true) ∧ Below w.heap.size w w' := by
  obtain ⟨N, hN⟩ : ∃ N, E.length = N := ⟨_, rfl⟩
  obtain ⟨nt, hnt⟩ : ∃ n, t.trs.length = n := ⟨_, rfl⟩
  rw [hN] at hr hm ⊢
  have hm' : N ≤ 9223372036854775807 := by unfold maxLen at hm; omega
  have htm' : nt ≤ 9223372036854775807 := by unfold maxLen at htm; omega
  by_cases hbig : 20 < nt
  · have hbI : (20 : Int) < (nt : Int) := by omega
    rw [hnt] at htr ⊢
    simp only [Tm.val]
    have Hr := Lib.hid hr; clear hr; have HN := Lib.hid hN; clear hN; have Hm := Lib.hid hm; clear hm; have Htr := Lib.hid htr; clear htr; have Htm := Lib.hid htm; clear htm; have Hnt := Lib.hid hnt; clear hnt
    go_enter Try.func4, Try.ntmps4
    go_wp2_with (go_at_call 12; (with_reducible refine (awake17_any _).mono ?_); rintro e w4 ⟨rfl, hk4⟩; have Hk4 := Lib.hid hk4; clear hk4)
    go_ret
    exact ⟨rfl, ((Keeps.alloc w _).nt Hk4.out).below (by simp) (Nat.le_refl _)⟩
  · have hbI : ¬ (20 : Int) < (nt : Int) := by omega
    have hnew := fun W (hW : Keeps (fun _ => False) w W) => datNew_any t (.slice adt t.trs.length ct) W (htr.keeps hW (by simp)) (by omega)
    have hrev := fun e W (hW : Keeps (fun _ => False) w W) => revRight_any t e adt ct W (htr.keeps hW (by simp)) (by omega)
    rw [hnt] at htr hnew hrev ⊢
    obtain ⟨w0, hw0⟩ : ∃ w0, w0 = w.alloc (.cells #[.int .i64 t.limit, .slice adt nt ct, .int .i64 t.cyc, .int .i64 t.due, .int .i64 t.minFixed, .int .i64 t.minPart, .int .i64 t.start] 27) := ⟨_, rfl⟩
    have hkw0 : Keeps (fun _ => False) w w0 := by rw [hw0]; exact Keeps.alloc _ _
    have hbox : w0.heap[w.heap.size]? = some (.cells #[.int .i64 t.limit, .slice adt nt ct, .int .i64 t.cyc, .int .i64 t.due, .int .i64 t.minFixed, .int .i64 t.minPart, .int .i64 t.start] 27 (0, 0)) := by rw [hw0]; exact heap_alloc_new w _
    have htl : t.trs.length ≤ 1000000 := by omega
    simp only [Tm.val] at hnew hrev ⊢
    have c := fun j => cell_of_cells hbox j
    have c0 := c 0; have c1 := c 1; have c2 := c 2; have c3 := c 3; have c4 := c 4; have c5 := c 5; have c6 := c 6
    have hbl := lt_of_block hbox
    clear c
    have Hr := Lib.hid hr; clear hr; have HN := Lib.hid hN; clear hN; have Hm := Lib.hid hm; clear hm; have Htr := Lib.hid htr; clear htr; have Htm := Lib.hid htm; clear htm; have Hnt := Lib.hid hnt; clear hnt; have Hnew := Lib.hid hnew; clear hnew; have Hrev := Lib.hid hrev; clear hrev; have Hkw0 := Lib.hid hkw0; clear hkw0; have Hbox := Lib.hid hbox; clear hbox; have Htl := Lib.hid htl; clear htl
    go_enter Try.func4, Try.ntmps4
    go_wp2_with fail
    rw [← hw0]
    have Hw0 := Lib.hid hw0; clear hw0
    refine (Hnew.out _ Hkw0.out).mono ?_
    intro e w2 hp
    obtain ⟨B, rfl, hm2⟩ := myNew hp (Keeps.refl _ w0)
    have Hm2 := Lib.hid hm2
    clear hm2 hp
    go_wp2_with (go_at_call 12; (with_reducible refine (awake17_any _).mono ?_); rintro e w3 ⟨rfl, hk3⟩; have Hm3 := Lib.hid (TwoAt.start (Hm2.out.keep hk3)); clear hk3; refine haltW ?_)
    refine Lib.hid ?_
    clear Hm2
    go_wp2
    go_loopw [9, 10, 11] (fun x y z wx => ∃ (i B : Nat) (L : List Ev), x = (.pointer (some ⟨B, 0, none⟩)) ∧ z = .int .i64 (i : Nat) ∧ i ≤ N ∧ i ≤ 60 ∧ L.length ≤ i ∧ TwoAt w0 wx B t L y L) (fun _ _ z _ => N - (intOf z).toNat)
    case atStart => exact ⟨0, B, [], rfl, rfl, Nat.zero_le _, Nat.zero_le _, Nat.zero_le _, Hm3.out⟩
    case round =>
      obtain ⟨i, B, L, rfl, rfl, hiN, hi60, hLi, htw⟩ := hrel
      obtain ⟨q, hq⟩ : ∃ q, L.length = q := ⟨_, rfl⟩
      obtain ⟨adv, cv, hv, _, _⟩ := ownsRow_shape htw.reads
      subst hv
      rw [hq] at hLi
      by_cases hlt : i < N ∧ i < 60
      · have hlt1 : (i : Int) < (N : Int) := by omega
        have hlt2 : (i : Int) < 60 := by omega
        obtain ⟨x, hx⟩ := get_some (L := E) (k := i) (by rw [HN.out]; omega)
        obtain ⟨z, hz⟩ : ∃ z, evErr t x = z := ⟨_, rfl⟩
        obtain ⟨L', hL'⟩ : ∃ L', addL t L x = L' := ⟨_, rfl⟩
        have hae : addErr t L x = z := by rw [addErr_few (by omega)]; exact hz
        have hadd := two_add B t L x _ L w0 wr htw (by omega) Htl.out hae hL'
        have hrev2 := Hrev.out x
        rw [hz] at hrev2
        obtain ⟨g, o, hcl⟩ : ∃ g o, ad = some ⟨g, o, none⟩ ∧ ∀ W, Keeps (fun _ => False) w0 W → plS w.heap.size t.limit t.cyc t.due t.minFixed t.minPart t.start (.slice adt nt ct) g (o + i * 5) x.kind x.day x.tranche x.amount x.ref W := by
          obtain ⟨g, o, c', he, _⟩ := Hr.out.elem Ev.cells_length hx (by decide)
          simp only [Value.slice.injEq, true_and] at he
          obtain ⟨rfl, rfl⟩ := he
          refine ⟨g, o, rfl, fun W hW => ?_⟩
          have hb := box_old Hbox.out hW (by simp)
          obtain ⟨g', o', c', he, hc⟩ := (Hr.out.keeps (Hkw0.out.nt hW) (by simp)).elem Ev.cells_length hx (by decide)
          simp only [Value.slice.injEq, true_and, Option.some.injEq, Addr.mk.injEq, and_true] at he
          obtain ⟨⟨rfl, rfl⟩, rfl⟩ := he
          exact ⟨cell_of_cells hb 0, cell_of_cells hb 1, cell_of_cells hb 2, cell_of_cells hb 3, cell_of_cells hb 4, cell_of_cells hb 5, cell_of_cells hb 6, hc 0 (by decide), hc 1 (by decide), hc 2 (by decide), hc 3 (by decide), hc 4 (by decide)⟩
        obtain ⟨rfl, hcl⟩ := hcl
        obtain ⟨xk, xd, xt, xa, xf⟩ := x
        simp only [Ev.agg] at hadd hrev2 hcl
        obtain ⟨_, _, _, _, _, _, _, x0, x1, x2, x3, x4⟩ := hcl wr htw.kp
        have hgl := cell_lt x0
        rw [hq] at hadd htw ⊢
        have Htw := Lib.hid htw; clear htw; have Hx := Lib.hid hx; clear hx; have Hadd := Lib.hid hadd; clear hadd; have Hrev2 := Lib.hid hrev2; clear hrev2; have Hq := Lib.hid hq; clear hq; have HL' := Lib.hid hL'; clear hL'; have Hz := Lib.hid hz; clear hz; have Hae := Lib.hid hae; clear hae; have Hcl := Lib.hid hcl; clear hcl
        go_wp2_with fail
        refine Hadd.out.mono ?_
        rintro e w9 ⟨rfl, ht9⟩
        have Ht9 := Lib.hid ht9; clear ht9
        have hk9 := Ht9.out.kp
        have Hk9 := Lib.hid hk9; clear hk9
        go_wp2_with fail
        refine wp_region_mixw (plS w.heap.size t.limit t.cyc t.due t.minFixed t.minPart t.start (.slice adt nt ct) g (o + i * 5) xk xd xt xa xf) (.take 0 (.take 1 (.take 2 (.take 3 (.take 4 (.take 5 (.move 6 (.take 7 .done)))))))) (by kernel_rfl) (by kernel_rfl) ?_ ?_
        · exact Hcl.out _ (Hk9.out.nt (Keeps.drew _))
        intro w10 hs10 hk10
        repeat (first
          | (refine mix_skip rfl (by rfl) ?_; try simp only [Act.put, List.setIfInBounds_toArray, List.set_cons_zero, List.set_cons_succ])
          | (refine mix_skipm rfl (by rfl) ?_; try simp only [Act.put, List.setIfInBounds_toArray, List.set_cons_zero, List.set_cons_succ])
          | (refine mix_take (v := ?_) rfl (by rfl) ?_ ?_; rotate_left; (· intro w' hSw; unfold plS at hSw; go_simp; (try with_reducible rfl)); rotate_right; try simp only [Act.put, List.setIfInBounds_toArray, List.set_cons_zero, List.set_cons_succ]))
        refine mix_move rfl (fun K hK => ?_)
        go_simp
        go_at_call 17
        ((with_reducible refine (Hrev2.out w10 ((Hkw0.out.nt Hk9.out).nt hk10)).mono ?_); rintro e w11 ⟨rfl, hk11⟩; dsimp only)
        refine hK.out _ _ (by exact hs10.keep hk11) ?_
        clear hK K
        try simp only [Act.put, List.setIfInBounds_toArray, List.set_cons_zero, List.set_cons_succ]
        have hkk := hk10.nt hk11
        have Ht11 := Lib.hid (Ht9.out.keep hkk)
        have Hkk := Lib.hid hkk; clear hkk
        clear hs10 hk10 hk11
        repeat (first
          | (refine mix_skip rfl (by rfl) ?_; try simp only [Act.put, List.setIfInBounds_toArray, List.set_cons_zero, List.set_cons_succ])
          | (refine mix_skipm rfl (by rfl) ?_; try simp only [Act.put, List.setIfInBounds_toArray, List.set_cons_zero, List.set_cons_succ])
          | (refine mix_take (v := ?_) rfl (by rfl) ?_ ?_; rotate_left; (· intro w' hSw; unfold plS at hSw; go_simp; (try with_reducible rfl)); rotate_right; try simp only [Act.put, List.setIfInBounds_toArray, List.set_cons_zero, List.set_cons_succ]))
        refine mix_done ?_
        by_cases hz0 : z = 0
        · subst hz0
          have hLp : L' = putL L ⟨xk, xd, xt, xa, xf⟩ := by rw [← HL'.out]; unfold addL; rw [if_pos Hae.out]
          have hlen : L'.length = q + 1 := by rw [hLp, putL_length, Hq.out]
          have hput := rdatPut_any ⟨xk, xd, xt, xa, xf⟩ L _ w11 Ht11.out.reads (by rw [Hq.out]; omega)
          rw [← hLp] at hput
          simp only [Ev.agg] at hput
          obtain ⟨_, _, _, _, _, _, _, x0, x1, x2, x3, x4⟩ := Hcl.out w11 Ht11.out.kp
          have hgl := cell_lt x0
          have Hput := Lib.hid hput; clear hput; have HLp := Lib.hid hLp; clear hLp; have Hlen := Lib.hid hlen; clear hlen
          go_wp2_with fail
          refine Hput.out.mono ?_
          rintro e w12 ⟨v12, rfl, hr12, hf12⟩
          have Ht12 := Lib.hid (Ht11.out.put hr12 hf12)
          clear hr12 hf12
          obtain ⟨ad5, c5, he5, _, _⟩ := ownsRow_shape Ht12.out.reads
          rw [Hlen.out] at he5
          cases he5
          by_cases hfk : (i : Int) = fk
          · subst hfk
            have hfork := two_fork B t L' _ L' w0 w12 Ht12.out (by rw [Hlen.out]; omega) Htl.out
            have Hfork := Lib.hid hfork; clear hfork
            go_wp2_with fail
            refine Hfork.out.mono ?_
            rintro e w13 ⟨B', rfl, hk13, hadd13⟩
            have c6' := cell_of_cells (box_old Hbox.out (Ht12.out.kp.nt hk13) (by simp)) 6
            have hbl' := lt_of_block (box_old Hbox.out (Ht12.out.kp.nt hk13) (by simp))
            have Hadd13 := Lib.hid hadd13; clear hadd13; have Hk13 := Lib.hid hk13; clear hk13
            go_wp2_with fail
            refine (Hadd13.out ⟨2, t.start, 0, 1, 0⟩).mono ?_
            rintro e w14 ⟨rfl, ht14⟩
            have Ht14 := Lib.hid ht14
            clear ht14
            go_wp2_with fail
            go_roundw
            case rel => exact ⟨i + 1, B', L', rfl, by go_num, by omega, by omega, by rw [Hlen.out]; omega, Ht14.out⟩
            case measure => simp [intOf]; omega
          · have hfI : ((i : Int) == fk) = false := beq_eq_false_iff_ne.2 hfk
            go_wp2_with fail
            go_roundw
            case rel => exact ⟨i + 1, B, L', rfl, by go_num, by omega, by omega, by rw [Hlen.out]; omega, Ht12.out⟩
            case measure => simp [intOf]; omega
        · have hzI : (z == 0) = false := beq_eq_false_iff_ne.2 hz0
          have hLp : L' = L := by rw [← HL'.out]; unfold addL; rw [if_neg (by rw [Hae.out]; exact hz0)]
          have ht12 := Ht11.out
          rw [hLp] at ht12
          have Ht12 := Lib.hid ht12; clear ht12; have HLp := Lib.hid hLp; clear hLp
          obtain ⟨ad5, c5, he5, _, _⟩ := ownsRow_shape Ht12.out.reads
          rw [Hq.out] at he5
          cases he5
          by_cases hfk : (i : Int) = fk
          · subst hfk
            have hfork := two_fork B t L _ L w0 w11 Ht12.out (by rw [Hq.out]; omega) Htl.out
            have Hfork := Lib.hid hfork; clear hfork
            go_wp2_with fail
            refine Hfork.out.mono ?_
            rintro e w13 ⟨B', rfl, hk13, hadd13⟩
            have c6' := cell_of_cells (box_old Hbox.out (Ht12.out.kp.nt hk13) (by simp)) 6
            have hbl' := lt_of_block (box_old Hbox.out (Ht12.out.kp.nt hk13) (by simp))
            have Hadd13 := Lib.hid hadd13; clear hadd13; have Hk13 := Lib.hid hk13; clear hk13
            go_wp2_with fail
            refine (Hadd13.out ⟨2, t.start, 0, 1, 0⟩).mono ?_
            rintro e w14 ⟨rfl, ht14⟩
            have Ht14 := Lib.hid ht14
            clear ht14
            go_wp2_with fail
            go_roundw
            case rel => exact ⟨i + 1, B', L, rfl, by go_num, by omega, by omega, by rw [Hq.out]; omega, Ht14.out⟩
            case measure => simp [intOf]; omega
          · have hfI : ((i : Int) == fk) = false := beq_eq_false_iff_ne.2 hfk
            go_wp2_with fail
            go_roundw
            case rel => exact ⟨i + 1, B, L, rfl, by go_num, by omega, by omega, by rw [Hq.out]; omega, Ht12.out⟩
            case measure => simp [intOf]; omega
      · by_cases hiN2 : i < N
        · have b1 : (i : Int) < (N : Int) := by omega
          have b2 : ¬ (i : Int) < 60 := by omega
          have hall := myAll B t L w0 wr htw.my (by omega)
          have hlen := fun W (hW : Keeps (fun _ => False) wr W) => myLen B t L w0 W (htw.my.keep hW)
          have hon := fun W (hW : Keeps (fun _ => False) wr W) => myOn B ask t L w0 W (htw.my.keep hW) (by omega)
          have hfr := fun W (hW : Keeps (fun _ => False) wr W) => myFrom B ask t L w0 W (htw.my.keep hW) (by omega)
          have hron := fun W (hW : Keeps (fun _ => False) wr W) => rdatOn_any L adv cv ask W ((Reads.of_owns htw.reads).keeps hW (by simp)) (by omega)
          have hrfr := fun W (hW : Keeps (fun _ => False) wr W) => rdatFrom_any L adv cv ask W ((Reads.of_owns htw.reads).keeps hW (by simp)) (by omega)
          have hno := List.length_filter_le (Want.on ask).p L
          have hnf := List.length_filter_le (Want.frm ask).p L
          obtain ⟨Lo, hLo⟩ : ∃ Lo, L.filter (Want.on ask).p = Lo := ⟨_, rfl⟩
          obtain ⟨Lf, hLf⟩ : ∃ Lf, L.filter (Want.frm ask).p = Lf := ⟨_, rfl⟩
          obtain ⟨no, hnoe⟩ : ∃ n, Lo.length = n := ⟨_, rfl⟩
          obtain ⟨nf, hnfe⟩ : ∃ n, Lf.length = n := ⟨_, rfl⟩
          rw [hLo] at hon hron hno
          rw [hLf] at hfr hrfr hnf
          rw [hq] at hno hnf hlen hron hrfr htw ⊢
          have hrw := Reads.of_owns htw.reads
          have hkw := htw.kp
          rw [hq] at hrw
          have Hall := Lib.hid hall; clear hall; have Hlen := Lib.hid hlen; clear hlen; have Hon := Lib.hid hon; clear hon; have Hfr := Lib.hid hfr; clear hfr; have Hron := Lib.hid hron; clear hron; have Hrfr := Lib.hid hrfr; clear hrfr; have Htw := Lib.hid htw; clear htw; have Hno := Lib.hid hno; clear hno; have Hnf := Lib.hid hnf; clear hnf; have HLo := Lib.hid hLo; clear hLo; have HLf := Lib.hid hLf; clear hLf; have Hnoe := Lib.hid hnoe; clear hnoe; have Hnfe := Lib.hid hnfe; clear hnfe; have Hrw := Lib.hid hrw; clear hrw; have Hkw := Lib.hid hkw; clear hkw; have Hq := Lib.hid hq; clear hq
          go_wp2_with (go_at_call 14; (with_reducible refine Hall.out.mono ?_); rintro e w5 ⟨v5, rfl, hr5, hk5, _⟩; rw [Hq.out] at hr5; obtain ⟨ad5, c5, he5, _⟩ := id hr5; subst he5; have Hr5 := Lib.hid hr5; have Hk5 := Lib.hid hk5; clear hr5 hk5; refine haltW ?_)
          refine Lib.hid ?_
          have hpl := plainEv_same L (.slice ad5 q c5) (.slice adv q cv) w5 (by rw [Hq.out]; exact Hr5.out) (by rw [Hq.out]; exact Hrw.out.keeps Hk5.out (by simp)) (by rw [Hq.out]; omega)
          have Hpl := Lib.hid hpl; clear hpl
          go_wp2_with (first
            | (go_at_call 20; (with_reducible refine Hpl.out.mono ?_); rintro e w6 ⟨rfl, hk6⟩; have Hk6 := Lib.hid (Hk5.out.nt hk6); clear hk6)
            | (go_at_call 21; (with_reducible refine (Hlen.out _ Hk6.out).mono ?_); rintro e w7 ⟨rfl, hw7⟩; subst hw7; refine haltW ?_))
          refine Lib.hid ?_
          go_wp2_with (go_at_call 15; (with_reducible refine (Hon.out _ Hk6.out).mono ?_); rintro e w8 ⟨v8, rfl, hr8, hk8, _⟩; rw [Hnoe.out] at hr8; obtain ⟨ad8, c8, he8, _⟩ := id hr8; subst he8; have Hr8 := Lib.hid hr8; have Hk8 := Lib.hid (Hk6.out.nt hk8); clear hr8 hk8; refine haltW ?_)
          refine Lib.hid ?_
          go_wp2_with (go_at_call 22; (with_reducible refine (Hron.out _ Hk8.out).mono ?_); rintro e w9 ⟨v9, rfl, hr9, hf9⟩; rw [Hnoe.out] at hr9; obtain ⟨ad9, c9, he9, _⟩ := ownsRow_shape hr9; subst he9; have Hr9 := Lib.hid (Reads.of_owns hr9); have Hf9 := Lib.hid hf9.1; have Hk9 := Lib.hid (Hk8.out.nt hf9.1); clear hr9 hf9; refine haltW ?_)
          refine Lib.hid ?_
          have hpl2 := plainEv_same Lo (.slice ad8 no c8) (.slice ad9 no c9) w9 (by rw [Hnoe.out]; exact Hr8.out.keeps Hf9.out (by simp)) (by rw [Hnoe.out]; exact Hr9.out) (by have := Hno.out; rw [Hnoe.out] at this ⊢; omega)
          have Hpl2 := Lib.hid hpl2; clear hpl2
          go_wp2_with (go_at_call 20; (with_reducible refine Hpl2.out.mono ?_); rintro e wA ⟨rfl, hkA⟩; have HkA := Lib.hid (Hk9.out.nt hkA); clear hkA; refine haltW ?_)
          refine Lib.hid ?_
          go_wp2_with (go_at_call 16; (with_reducible refine (Hfr.out _ HkA.out).mono ?_); rintro e wB ⟨vB, rfl, hrB, hkB, _⟩; rw [Hnfe.out] at hrB; obtain ⟨adB, cB, heB, _⟩ := id hrB; subst heB; have HrB := Lib.hid hrB; have HkB := Lib.hid (HkA.out.nt hkB); clear hrB hkB; refine haltW ?_)
          refine Lib.hid ?_
          go_wp2_with (go_at_call 23; (with_reducible refine (Hrfr.out _ HkB.out).mono ?_); rintro e wC ⟨vC, rfl, hrC, hfC⟩; rw [Hnfe.out] at hrC; obtain ⟨adC, cC, heC, _⟩ := ownsRow_shape hrC; subst heC; have HrC := Lib.hid (Reads.of_owns hrC); have HfC := Lib.hid hfC.1; have HkC := Lib.hid (HkB.out.nt hfC.1); clear hrC hfC; refine haltW ?_)
          refine Lib.hid ?_
          have hpl3 := plainEv_same Lf (.slice adB nf cB) (.slice adC nf cC) wC (by rw [Hnfe.out]; exact HrB.out.keeps HfC.out (by simp)) (by rw [Hnfe.out]; exact HrC.out) (by have := Hnf.out; rw [Hnfe.out] at this ⊢; omega)
          have Hpl3 := Lib.hid hpl3; clear hpl3
          go_wp2_with (go_at_call 20; (with_reducible refine Hpl3.out.mono ?_); rintro e wD ⟨rfl, hkD⟩; have HkD := Lib.hid (HkC.out.nt hkD); clear hkD; refine haltW ?_)
          refine Lib.hid ?_
          go_wp2
          go_ret
          exact ⟨rfl, ((Hkw0.out.nt Hkw.out).nt HkD.out).below (by simp) (Nat.le_refl _)⟩
        · have b1 : ¬ (i : Int) < (N : Int) := by omega
          have hall := myAll B t L w0 wr htw.my (by omega)
          have hlen := fun W (hW : Keeps (fun _ => False) wr W) => myLen B t L w0 W (htw.my.keep hW)
          have hon := fun W (hW : Keeps (fun _ => False) wr W) => myOn B ask t L w0 W (htw.my.keep hW) (by omega)
          have hfr := fun W (hW : Keeps (fun _ => False) wr W) => myFrom B ask t L w0 W (htw.my.keep hW) (by omega)
          have hron := fun W (hW : Keeps (fun _ => False) wr W) => rdatOn_any L adv cv ask W ((Reads.of_owns htw.reads).keeps hW (by simp)) (by omega)
          have hrfr := fun W (hW : Keeps (fun _ => False) wr W) => rdatFrom_any L adv cv ask W ((Reads.of_owns htw.reads).keeps hW (by simp)) (by omega)
          have hno := List.length_filter_le (Want.on ask).p L
          have hnf := List.length_filter_le (Want.frm ask).p L
          obtain ⟨Lo, hLo⟩ : ∃ Lo, L.filter (Want.on ask).p = Lo := ⟨_, rfl⟩
          obtain ⟨Lf, hLf⟩ : ∃ Lf, L.filter (Want.frm ask).p = Lf := ⟨_, rfl⟩
          obtain ⟨no, hnoe⟩ : ∃ n, Lo.length = n := ⟨_, rfl⟩
          obtain ⟨nf, hnfe⟩ : ∃ n, Lf.length = n := ⟨_, rfl⟩
          rw [hLo] at hon hron hno
          rw [hLf] at hfr hrfr hnf
          rw [hq] at hno hnf hlen hron hrfr htw ⊢
          have hrw := Reads.of_owns htw.reads
          have hkw := htw.kp
          rw [hq] at hrw
          have Hall := Lib.hid hall; clear hall; have Hlen := Lib.hid hlen; clear hlen; have Hon := Lib.hid hon; clear hon; have Hfr := Lib.hid hfr; clear hfr; have Hron := Lib.hid hron; clear hron; have Hrfr := Lib.hid hrfr; clear hrfr; have Htw := Lib.hid htw; clear htw; have Hno := Lib.hid hno; clear hno; have Hnf := Lib.hid hnf; clear hnf; have HLo := Lib.hid hLo; clear hLo; have HLf := Lib.hid hLf; clear hLf; have Hnoe := Lib.hid hnoe; clear hnoe; have Hnfe := Lib.hid hnfe; clear hnfe; have Hrw := Lib.hid hrw; clear hrw; have Hkw := Lib.hid hkw; clear hkw; have Hq := Lib.hid hq; clear hq
          go_wp2_with (go_at_call 14; (with_reducible refine Hall.out.mono ?_); rintro e w5 ⟨v5, rfl, hr5, hk5, _⟩; rw [Hq.out] at hr5; obtain ⟨ad5, c5, he5, _⟩ := id hr5; subst he5; have Hr5 := Lib.hid hr5; have Hk5 := Lib.hid hk5; clear hr5 hk5; refine haltW ?_)
          refine Lib.hid ?_
          have hpl := plainEv_same L (.slice ad5 q c5) (.slice adv q cv) w5 (by rw [Hq.out]; exact Hr5.out) (by rw [Hq.out]; exact Hrw.out.keeps Hk5.out (by simp)) (by rw [Hq.out]; omega)
          have Hpl := Lib.hid hpl; clear hpl
          go_wp2_with (first
            | (go_at_call 20; (with_reducible refine Hpl.out.mono ?_); rintro e w6 ⟨rfl, hk6⟩; have Hk6 := Lib.hid (Hk5.out.nt hk6); clear hk6)
            | (go_at_call 21; (with_reducible refine (Hlen.out _ Hk6.out).mono ?_); rintro e w7 ⟨rfl, hw7⟩; subst hw7; refine haltW ?_))
          refine Lib.hid ?_
          go_wp2_with (go_at_call 15; (with_reducible refine (Hon.out _ Hk6.out).mono ?_); rintro e w8 ⟨v8, rfl, hr8, hk8, _⟩; rw [Hnoe.out] at hr8; obtain ⟨ad8, c8, he8, _⟩ := id hr8; subst he8; have Hr8 := Lib.hid hr8; have Hk8 := Lib.hid (Hk6.out.nt hk8); clear hr8 hk8; refine haltW ?_)
          refine Lib.hid ?_
          go_wp2_with (go_at_call 22; (with_reducible refine (Hron.out _ Hk8.out).mono ?_); rintro e w9 ⟨v9, rfl, hr9, hf9⟩; rw [Hnoe.out] at hr9; obtain ⟨ad9, c9, he9, _⟩ := ownsRow_shape hr9; subst he9; have Hr9 := Lib.hid (Reads.of_owns hr9); have Hf9 := Lib.hid hf9.1; have Hk9 := Lib.hid (Hk8.out.nt hf9.1); clear hr9 hf9; refine haltW ?_)
          refine Lib.hid ?_
          have hpl2 := plainEv_same Lo (.slice ad8 no c8) (.slice ad9 no c9) w9 (by rw [Hnoe.out]; exact Hr8.out.keeps Hf9.out (by simp)) (by rw [Hnoe.out]; exact Hr9.out) (by have := Hno.out; rw [Hnoe.out] at this ⊢; omega)
          have Hpl2 := Lib.hid hpl2; clear hpl2
          go_wp2_with (go_at_call 20; (with_reducible refine Hpl2.out.mono ?_); rintro e wA ⟨rfl, hkA⟩; have HkA := Lib.hid (Hk9.out.nt hkA); clear hkA; refine haltW ?_)
          refine Lib.hid ?_
          go_wp2_with (go_at_call 16; (with_reducible refine (Hfr.out _ HkA.out).mono ?_); rintro e wB ⟨vB, rfl, hrB, hkB, _⟩; rw [Hnfe.out] at hrB; obtain ⟨adB, cB, heB, _⟩ := id hrB; subst heB; have HrB := Lib.hid hrB; have HkB := Lib.hid (HkA.out.nt hkB); clear hrB hkB; refine haltW ?_)
          refine Lib.hid ?_
          go_wp2_with (go_at_call 23; (with_reducible refine (Hrfr.out _ HkB.out).mono ?_); rintro e wC ⟨vC, rfl, hrC, hfC⟩; rw [Hnfe.out] at hrC; obtain ⟨adC, cC, heC, _⟩ := ownsRow_shape hrC; subst heC; have HrC := Lib.hid (Reads.of_owns hrC); have HfC := Lib.hid hfC.1; have HkC := Lib.hid (HkB.out.nt hfC.1); clear hrC hfC; refine haltW ?_)
          refine Lib.hid ?_
          have hpl3 := plainEv_same Lf (.slice adB nf cB) (.slice adC nf cC) wC (by rw [Hnfe.out]; exact HrB.out.keeps HfC.out (by simp)) (by rw [Hnfe.out]; exact HrC.out) (by have := Hnf.out; rw [Hnfe.out] at this ⊢; omega)
          have Hpl3 := Lib.hid hpl3; clear hpl3
          go_wp2_with (go_at_call 20; (with_reducible refine Hpl3.out.mono ?_); rintro e wD ⟨rfl, hkD⟩; have HkD := Lib.hid (HkC.out.nt hkD); clear hkD; refine haltW ?_)
          refine Lib.hid ?_
          go_wp2
          go_ret
          exact ⟨rfl, ((Hkw0.out.nt Hkw.out).nt HkD.out).below (by simp) (Nat.le_refl _)⟩
end Go.Proofs.Ytelhlbplbkglkaa
