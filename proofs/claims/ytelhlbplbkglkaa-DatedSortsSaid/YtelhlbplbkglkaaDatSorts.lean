/- DatedSorts: any events, sorted: what is added one by one is sorted; of one day the order stays; what is handed in stays. -/
import Derived.Test.YtelhlbplbkglkaaTwo
import Derived.Test.YtelhlbplbkglkaaSrt8
import Derived.Test.YtelhlbplbkglkaaKeptEv
import Derived.Test.YtelhlbplbkglkaaOpenEv
namespace Go.Proofs.Ytelhlbplbkglkaa
open Go.RowKit
def ev71 : Ev := ⟨71, 0, 0, 0, 0⟩
set_option maxRecDepth 100000 in
set_option maxHeartbeats 1600000 in
theorem datedSorts_walk (w : World) (ad : Option Addr) (cap : Nat) (L : List Ev) (hr : Reads w 5 (.slice ad L.length cap) L.length (L.flatMap Ev.cells)) (_ : ∀ a ∈ L, a.wf) (hm : L.length ≤ maxLen) :
    Calls Try.prog 6 #[.slice ad L.length cap] w fun e w' => e = .returned (.bool true) ∧ Below w.heap.size w w' := by
  obtain ⟨i0, hi, hi0, hi1, hi2⟩ := info_parts info_tEvent
  obtain ⟨N, hN⟩ : ∃ N, L.length = N := ⟨_, rfl⟩
  by_cases hbig : 100 < N
  · have hbI : (100 : Int) < (N : Int) := by omega
    rw [hN] at hr hm ⊢
    have Hr := Lib.hid hr; clear hr; have HN := Lib.hid hN; clear hN; have Hm := Lib.hid hm; clear hm
    go_enter Try.func6, Try.ntmps6
    go_wp2_with (go_at_call 12; (with_reducible refine (awake17_any _).mono ?_); rintro e w4 ⟨rfl, hk4⟩; have Hk4 := Lib.hid hk4; clear hk4)
    go_ret
    exact ⟨rfl, Hk4.out.below (by simp) (Nat.le_refl _)⟩
  · have hbI : ¬ (100 : Int) < (N : Int) := by omega
    have hown := ownEv_any w ad cap L ev71 hr (by omega)
    have hsl := sortL_length L
    rw [hN] at hr hm hown hsl ⊢
    simp only [Ev.agg, ev71] at hown
    have Hr := Lib.hid hr; clear hr; have HN := Lib.hid hN; clear hN; have Hm := Lib.hid hm; clear hm; have Hown := Lib.hid hown; clear hown; have Hi := Lib.hid hi; clear hi; have Hi0 := Lib.hid hi0; clear hi0; have Hi1 := Lib.hid hi1; clear hi1; have Hi2 := Lib.hid hi2; clear hi2; have Hsl := Lib.hid hsl; clear hsl
    go_enter Try.func6, Try.ntmps6
    go_wp2_with (go_at_call 24; (with_reducible refine Hown.out.mono ?_); rintro e w1 ⟨rfl, ho1, hk1⟩; have Ho1 := Lib.hid ho1; have Hk1 := Lib.hid hk1; clear ho1 hk1)
    have hin := datSort_any _ L w1 Ho1.out.reads (by rw [HN.out]; omega)
    rw [HN.out] at hin
    have Hin := Lib.hid hin; clear hin
    go_wp2_with (go_at_call 25; (with_reducible refine Hin.out.mono ?_); rintro e w2 ⟨v2, rfl, hr2, hk2, _⟩; obtain ⟨ad2, c2, he2, _, _⟩ := ownsRow_shape hr2; subst he2; have Hr2 := Lib.hid hr2; have Hk2 := Lib.hid hk2; clear hr2 hk2; refine haltW ?_)
    refine Lib.hid ?_
    go_wp2_with (go_at_call 12; (with_reducible refine (awake17_any _).mono ?_); rintro e w3 ⟨rfl, hk3⟩; have Hk3 := Lib.hid hk3; clear hk3; refine haltW ?_)
    refine Lib.hid ?_
    have hk13 : Keeps (fun _ => False) w w3 := (Hk1.out.nt Hk2.out).nt Hk3.out
    have hrs := rdatSort_any L ad cap w3 (by rw [HN.out]; exact Hr.out.keeps hk13 (by simp)) (by rw [HN.out]; omega)
    rw [HN.out] at hrs
    have Hk13 := Lib.hid hk13; clear hk13; have Hrs := Lib.hid hrs; clear hrs
    go_wp2_with (go_at_call 26; (with_reducible refine Hrs.out.mono ?_); rintro e w4 ⟨v4, rfl, hr4, hf4⟩; rw [Hsl.out] at hr4; obtain ⟨ad4, c4, he4, _, _⟩ := ownsRow_shape hr4; subst he4; have Hr4 := Lib.hid hr4; have Hk4 := Lib.hid hf4.1; clear hr4 hf4; refine haltW ?_)
    refine Lib.hid ?_
    have hpl := plainEv_same (sortL L) (.slice ad2 N c2) (.slice ad4 N c4) w4 (by rw [Hsl.out]; exact ((Reads.of_owns Hr2.out).keeps Hk3.out (by simp)).keeps Hk4.out (by simp)) (by rw [Hsl.out]; exact Reads.of_owns Hr4.out) (by rw [Hsl.out]; omega)
    have Hpl := Lib.hid hpl; clear hpl
    go_wp2_with (go_at_call 20; (with_reducible refine Hpl.out.mono ?_); rintro e w5 ⟨rfl, hk5⟩; have Hk5 := Lib.hid hk5; clear hk5; refine haltW ?_)
    refine Lib.hid ?_
    have hk05 : Keeps (fun _ => False) w w5 := (Hk13.out.nt Hk4.out).nt Hk5.out
    have hkept := keptEv_any (w.heap.size + 1) ad cap L ev71 w5 (Ho1.out.keep (((Hk2.out.nt Hk3.out).nt Hk4.out).nt Hk5.out)) (by rw [HN.out]; exact Hr.out.keeps hk05 (by simp)) (by rw [HN.out]; omega)
    rw [HN.out] at hkept
    simp only [Ev.agg, ev71] at hkept
    have Hkept := Lib.hid hkept; clear hkept; have Hk05 := Lib.hid hk05; clear hk05
    go_wp2_with (go_at_call 27; (with_reducible refine Hkept.out.mono ?_); rintro e w6 ⟨rfl, hk6⟩; have Hk6 := Lib.hid (Hk05.out.nt hk6); clear hk6; refine haltW ?_)
    refine Lib.hid ?_
    clear Hpl Hkept Hrs Hin Hr2 Hr4 Hk1 Hk2 Hk3 Hk4 Hk5 Hk13 Ho1 Hown Hk05
    go_wp2_with (go_at_call 11; (with_reducible refine (terms17_any _).mono ?_); rintro e w7 ⟨B1, rfl, hr7, hk7⟩; have Hr7 := Lib.hid hr7; have Hk7 := Lib.hid (Hk6.out.nt hk7); clear hr7 hk7)
    go_wp2_with (go_at_call 10; refine (datNew_any t17 (.slice (some ⟨B1, 0, none⟩) 2 2) _ Hr7.out (by decide)).mono ?_; intro e w8 hp; obtain ⟨B, rfl, hm8⟩ := myNew hp Hk7.out; have Hm8 := Lib.hid (TwoAt.start hm8); clear hm8 hp; refine haltW ?_)
    refine Lib.hid ?_
    go_wp2
    go_loopw [6, 7] (fun x y wx => ∃ (i : Nat) (R : List Ev), y = .int .i64 (i : Nat) ∧ i ≤ N ∧ i ≤ 60 ∧ R.length ≤ i ∧ TwoAt w wx B t17 (sortL R) x R) (fun _ y _ => N - (intOf y).toNat)
    case atStart => exact ⟨0, [], rfl, Nat.zero_le _, Nat.zero_le _, Nat.zero_le _, Hm8.out⟩
    case round =>
      obtain ⟨i, R, rfl, hiN, hi60, hRi, htw⟩ := hrel
      obtain ⟨q, hq⟩ : ∃ q, R.length = q := ⟨_, rfl⟩
      have hsR := sortL_length R
      obtain ⟨adv, cv, hv, _, _⟩ := ownsRow_shape htw.reads
      subst hv
      rw [hq] at hRi hsR
      by_cases hlt : i < N ∧ i < 60
      · have hlt1 : (i : Int) < (N : Int) := by omega
        have hlt2 : (i : Int) < 60 := by omega
        obtain ⟨x, hx⟩ := get_some (L := L) (k := i) (by rw [HN.out]; omega)
        have hread := Hr.out.keeps htw.kp (by simp)
        obtain ⟨g, o, c', he, hc⟩ := hread.elem Ev.cells_length hx (by decide)
        simp only [Value.slice.injEq, true_and] at he
        obtain ⟨rfl, rfl⟩ := he
        obtain ⟨z, hz⟩ : ∃ z, addErr t17 (sortL R) x = z := ⟨_, rfl⟩
        have hadd := fun {L'} (hL : addL t17 (sortL R) x = L') => two_add B t17 (sortL R) x _ R w wr htw (by rw [hsR]; omega) (by decide) hz hL
        obtain ⟨xk, xd, xt, xa, xf⟩ := x
        have x0 : wr.cell? ⟨g, o + i * 5, none⟩ = some (.int .i64 xk) := hc 0 (by decide)
        have x1 : wr.cell? ⟨g, o + i * 5 + 1, none⟩ = some (.int .i64 xd) := hc 1 (by decide)
        have x2 : wr.cell? ⟨g, o + i * 5 + 2, none⟩ = some (.int .i64 xt) := hc 2 (by decide)
        have x3 : wr.cell? ⟨g, o + i * 5 + 3, none⟩ = some (.int .i64 xa) := hc 3 (by decide)
        have x4 : wr.cell? ⟨g, o + i * 5 + 4, none⟩ = some (.int .i64 xf) := hc 4 (by decide)
        have hgl := cell_lt x0
        clear hc
        by_cases hz0 : z = 0
        · subst hz0
          have hL' : addL t17 (sortL R) ⟨xk, xd, xt, xa, xf⟩ = sortL (R ++ [⟨xk, xd, xt, xa, xf⟩]) := by rw [sortL_snoc]; unfold addL; rw [if_pos hz]
          have hadd2 := hadd hL'
          simp only [Ev.agg] at hadd2
          have hcell := fun W (hW : Keeps (fun _ => False) w W) => (Hr.out.keeps hW (by simp)).elem Ev.cells_length hx (by decide)
          rw [hq] at hadd2 htw ⊢
          clear hadd
          have Htw := Lib.hid htw; clear htw; have Hread := Lib.hid hread; clear hread; have Hx := Lib.hid hx; clear hx; have Hadd2 := Lib.hid hadd2; clear hadd2; have Hq := Lib.hid hq; clear hq; have HsR := Lib.hid hsR; clear hsR; have HL' := Lib.hid hL'; clear hL'; have Hz := Lib.hid hz; clear hz; have Hcell := Lib.hid hcell; clear hcell
          go_wp2_with (go_at_call 13; (with_reducible refine Hadd2.out.mono ?_); rintro e w9 ⟨rfl, ht9⟩; have Ht9 := Lib.hid ht9; clear ht9; refine haltW ?_)
          refine Lib.hid ?_
          obtain ⟨g', o', c', he, hc⟩ := Hcell.out w9 Ht9.out.kp
          simp only [Value.slice.injEq, true_and, Option.some.injEq, Addr.mk.injEq, and_true] at he
          obtain ⟨⟨rfl, rfl⟩, rfl⟩ := he
          have x0 : w9.cell? ⟨g, o + i * 5, none⟩ = some (.int .i64 xk) := hc 0 (by decide)
          have x1 : w9.cell? ⟨g, o + i * 5 + 1, none⟩ = some (.int .i64 xd) := hc 1 (by decide)
          have x2 : w9.cell? ⟨g, o + i * 5 + 2, none⟩ = some (.int .i64 xt) := hc 2 (by decide)
          have x3 : w9.cell? ⟨g, o + i * 5 + 3, none⟩ = some (.int .i64 xa) := hc 3 (by decide)
          have x4 : w9.cell? ⟨g, o + i * 5 + 4, none⟩ = some (.int .i64 xf) := hc 4 (by decide)
          have hgl9 := cell_lt x0
          clear hc Hcell
          have hrow9 := Ht9.out.reads
          rw [Hq.out] at hrow9
          have Hrow9 := Lib.hid hrow9; clear hrow9
          go_wp2_with (at_builtin; refine wpList_append_row rfl (.tmp 56) (.tmp 61) 35 rfl 0 34 i0 _ 5 40 Try.underlying35 Hi.out Hi0.out Hi1.out Hi2.out rfl (by decide) _ q _ rfl (Hrow9.out.alloc _) _ 1 _ rfl (Reads.litAt _ _ _ 5 1 _ (by first | rfl | simp) rfl) (by simp [Value.oneCell']) (by unfold maxLen; omega) (by omega) (Nat.zero_le _) ?_; intro v4 w4 hown4 hk4 hf4; have hg4 : TwoAt w w4 B t17 (sortL (R ++ [⟨xk, xd, xt, xa, xf⟩])) v4 (R ++ [⟨xk, xd, xt, xa, xf⟩]) := (Ht9.out.keep (Keeps.alloc _ _)).app (by rw [List.length_append, Hq.out, List.flatMap_append]; exact hown4) hk4 hf4; obtain ⟨ad4, c4, rfl, _, _⟩ := ownsRow_shape hown4; have Hg4 := Lib.hid hg4; clear hown4 hk4 hf4 hg4)
          go_roundw
          case rel => exact ⟨i + 1, _, by go_num, by omega, by omega, by rw [List.length_append, Hq.out]; simp; omega, Hg4.out⟩
          case measure => simp [intOf]; omega
        · have hL' : addL t17 (sortL R) ⟨xk, xd, xt, xa, xf⟩ = sortL R := by unfold addL; rw [if_neg (by rw [hz]; exact hz0)]
          have hadd2 := hadd hL'
          simp only [Ev.agg] at hadd2
          have hzI : (z == 0) = false := beq_eq_false_iff_ne.2 hz0
          rw [hq] at hadd2 htw ⊢
          clear hadd
          have Htw := Lib.hid htw; clear htw; have Hread := Lib.hid hread; clear hread; have Hx := Lib.hid hx; clear hx; have Hadd2 := Lib.hid hadd2; clear hadd2; have Hq := Lib.hid hq; clear hq; have HsR := Lib.hid hsR; clear hsR; have HL' := Lib.hid hL'; clear hL'; have Hz := Lib.hid hz; clear hz
          go_wp2_with (go_at_call 13; (with_reducible refine Hadd2.out.mono ?_); rintro e w9 ⟨rfl, ht9⟩; have Ht9 := Lib.hid ht9; clear ht9; refine haltW ?_)
          refine Lib.hid ?_
          go_wp2
          go_roundw
          case rel => exact ⟨i + 1, R, by go_num, by omega, by omega, by rw [Hq.out]; omega, Ht9.out⟩
          case measure => simp [intOf]; omega
      · have hend : decide ((i : Int) < (N : Int)) = false ∨ decide ((i : Int) < 60) = false := by
          by_cases h : i < N
          · right; simp; omega
          · left; simp; omega
        have hall := fun W (hW : Keeps (fun _ => False) wr W) => myAll B t17 (sortL R) w W (htw.my.keep hW) (by rw [hsR]; omega)
        have hsrt := fun W (hW : Keeps (fun _ => False) wr W) => datSort_any _ R W (Reads.of_owns (htw.reads.of_keeps hW)) (by omega)
        rw [hq] at hsrt htw ⊢
        have Htw := Lib.hid htw; clear htw; have Hall := Lib.hid hall; clear hall; have Hsrt := Lib.hid hsrt; clear hsrt; have Hq := Lib.hid hq; clear hq; have HsR := Lib.hid hsR; clear hsR
        by_cases hiN2 : i < N
        · have b1 : (i : Int) < (N : Int) := by omega
          have b2 : ¬ (i : Int) < 60 := by omega
          have hkw := Htw.out.kp
          have Hkw := Lib.hid hkw; clear hkw
          go_wp2_with (go_at_call 14; (with_reducible refine (Hall.out wr (Keeps.refl _ _)).mono ?_); rintro e w9 ⟨v9, rfl, hr9, hk9, _⟩; rw [HsR.out] at hr9; obtain ⟨ad9, c9, he9, _⟩ := id hr9; subst he9; have Hr9 := Lib.hid hr9; have Hk9 := Lib.hid hk9; clear hr9 hk9; refine haltW ?_)
          refine Lib.hid ?_
          go_wp2_with (go_at_call 25; (with_reducible refine (Hsrt.out _ Hk9.out).mono ?_); rintro e wA ⟨vA, rfl, hrA, hkA, _⟩; obtain ⟨adA, cA, heA, _, _⟩ := ownsRow_shape hrA; subst heA; have HrA := Lib.hid hrA; have HkA := Lib.hid hkA; clear hrA hkA; refine haltW ?_)
          refine Lib.hid ?_
          have hpl := plainEv_same (sortL R) (.slice ad9 q c9) (.slice adA q cA) wA (by rw [HsR.out]; exact Hr9.out.keeps HkA.out (by simp)) (by rw [HsR.out]; exact Reads.of_owns HrA.out) (by rw [HsR.out]; omega)
          have Hpl := Lib.hid hpl; clear hpl
          go_wp2_with (go_at_call 20; (with_reducible refine Hpl.out.mono ?_); rintro e wB ⟨rfl, hkB⟩; have HkB := Lib.hid hkB; clear hkB; refine haltW ?_)
          refine Lib.hid ?_
          go_wp2
          go_ret
          exact ⟨rfl, (((Hkw.out.nt Hk9.out).nt HkA.out).nt HkB.out).below (by simp) (Nat.le_refl _)⟩
        · have b1 : ¬ (i : Int) < (N : Int) := by omega
          have hkw := Htw.out.kp
          have Hkw := Lib.hid hkw; clear hkw
          go_wp2_with (go_at_call 14; (with_reducible refine (Hall.out wr (Keeps.refl _ _)).mono ?_); rintro e w9 ⟨v9, rfl, hr9, hk9, _⟩; rw [HsR.out] at hr9; obtain ⟨ad9, c9, he9, _⟩ := id hr9; subst he9; have Hr9 := Lib.hid hr9; have Hk9 := Lib.hid hk9; clear hr9 hk9; refine haltW ?_)
          refine Lib.hid ?_
          go_wp2_with (go_at_call 25; (with_reducible refine (Hsrt.out _ Hk9.out).mono ?_); rintro e wA ⟨vA, rfl, hrA, hkA, _⟩; obtain ⟨adA, cA, heA, _, _⟩ := ownsRow_shape hrA; subst heA; have HrA := Lib.hid hrA; have HkA := Lib.hid hkA; clear hrA hkA; refine haltW ?_)
          refine Lib.hid ?_
          have hpl := plainEv_same (sortL R) (.slice ad9 q c9) (.slice adA q cA) wA (by rw [HsR.out]; exact Hr9.out.keeps HkA.out (by simp)) (by rw [HsR.out]; exact Reads.of_owns HrA.out) (by rw [HsR.out]; omega)
          have Hpl := Lib.hid hpl; clear hpl
          go_wp2_with (go_at_call 20; (with_reducible refine Hpl.out.mono ?_); rintro e wB ⟨rfl, hkB⟩; have HkB := Lib.hid hkB; clear hkB; refine haltW ?_)
          refine Lib.hid ?_
          go_wp2
          go_ret
          exact ⟨rfl, (((Hkw.out.nt Hk9.out).nt HkA.out).nt HkB.out).below (by simp) (Nat.le_refl _)⟩
end Go.Proofs.Ytelhlbplbkglkaa
