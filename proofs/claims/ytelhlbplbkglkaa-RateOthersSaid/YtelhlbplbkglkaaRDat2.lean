/- The document's dated layer: Sort, On, From. -/
import Derived.Test.YtelhlbplbkglkaaRDat
namespace Go.Proofs.Ytelhlbplbkglkaa
open Go.RowKit
theorem filter_snoc_yes {p : Ev → Bool} {L : List Ev} {i : Nat} {x : Ev} (hx : L[i]? = some x) (h : p x = true) : (L.take (i + 1)).filter p = (L.take i).filter p ++ [x] := by
  rw [take_snoc' hx, List.filter_append]; simp [h]
theorem filter_snoc_no {p : Ev → Bool} {L : List Ev} {i : Nat} {x : Ev} (hx : L[i]? = some x) (h : p x = false) : (L.take (i + 1)).filter p = (L.take i).filter p := by
  rw [take_snoc' hx, List.filter_append]; simp [h]
/-- What has been gathered so far. -/
def Gath (w : World) (M : List Ev) (v : Value) (W : World) : Prop := W.ownsRow 0 34 5 v M.length (M.flatMap Ev.cells) ∧ Fresh w W v
theorem Gath.nil (w : World) : Gath w [] (.slice none 0 0) w := ⟨World.ownsRow_nil _ _ _ _, Fresh.nil w⟩
theorem Gath.keep {w W W' : World} {M : List Ev} {v : Value} (h : Gath w M v W) (hk : Keeps (fun _ => False) W W') : Gath w M v W' := ⟨h.1.of_keeps hk, h.2.keep hk⟩
set_option maxRecDepth 100000 in
set_option maxHeartbeats 1600000 in
theorem rdatOn_any (L : List Ev) (ad : Option Addr) (cap : Nat) (d : Int) (w : World) (hr : Reads w 5 (.slice ad L.length cap) L.length (L.flatMap Ev.cells)) (hl : L.length ≤ 1000000) : Calls Try.prog 22 #[.slice ad L.length cap, .int .i64 d] w (MakesEv w (L.filter (Want.on d).p)) := by
  obtain ⟨i0, hi, hi0, hi1, hi2⟩ := info_parts info_tEvent
  obtain ⟨n, hn⟩ : ∃ n, L.length = n := ⟨_, rfl⟩
  rw [hn] at hr hl ⊢
  have Hi := Lib.hid hi; clear hi; have Hi0 := Lib.hid hi0; clear hi0; have Hi1 := Lib.hid hi1; clear hi1; have Hi2 := Lib.hid hi2; clear hi2; have Hn := Lib.hid hn; clear hn; have Hr := Lib.hid hr; clear hr
  go_enter Try.func22, Try.ntmps22
  go_wp2
  go_loopw [5, 6] (fun x y wx => ∃ (i : Nat) (M : List Ev), y = .int .i64 (i : Nat) ∧ i ≤ n ∧ (L.take i).filter (Want.on d).p = M ∧ M.length ≤ i ∧ Gath w M x wx) (fun _ y _ => n - (intOf y).toNat)
  case atStart => exact ⟨0, [], rfl, Nat.zero_le _, rfl, Nat.zero_le _, Gath.nil w⟩
  case round =>
    obtain ⟨i, M, rfl, hin, hM, hMi, hg⟩ := hrel
    obtain ⟨q, hq⟩ : ∃ q, M.length = q := ⟨_, rfl⟩
    rw [hq] at hMi
    by_cases hlt : i < n
    · obtain ⟨⟨xk, xd, xt, xa, xf⟩, hx⟩ := get_some (L := L) (k := i) (by rw [Hn.out]; exact hlt)
      obtain ⟨g, o, c', he, hc⟩ := (Hr.out.keeps hg.2.1 (by simp)).elem Ev.cells_length hx (by decide)
      simp only [Value.slice.injEq, true_and] at he
      obtain ⟨rfl, rfl⟩ := he
      have x0 : wr.cell? ⟨g, o + i * 5, none⟩ = some (.int .i64 xk) := hc 0 (by decide)
      have x1 : wr.cell? ⟨g, o + i * 5 + 1, none⟩ = some (.int .i64 xd) := hc 1 (by decide)
      have x2 : wr.cell? ⟨g, o + i * 5 + 2, none⟩ = some (.int .i64 xt) := hc 2 (by decide)
      have x3 : wr.cell? ⟨g, o + i * 5 + 3, none⟩ = some (.int .i64 xa) := hc 3 (by decide)
      have x4 : wr.cell? ⟨g, o + i * 5 + 4, none⟩ = some (.int .i64 xf) := hc 4 (by decide)
      have hgl := cell_lt x0
      have hrow := hg.1
      obtain ⟨adv, cv, rfl, _, _⟩ := ownsRow_shape hg.1
      rw [hq] at hg hrow ⊢
      clear hc
      by_cases hd : xd = d
      · have hp2 := filter_snoc_yes (p := (Want.on d).p) hx (by simp [Want.p, *])
        rw [hM] at hp2
        subst hd
        have Hg := Lib.hid hg; clear hg; have HM := Lib.hid hM; clear hM; have Hx := Lib.hid hx; clear hx; have Hq := Lib.hid hq; clear hq; have Hp2 := Lib.hid hp2; clear hp2; have Hrow := Lib.hid hrow; clear hrow
        go_wp2_with (at_builtin; refine wpList_append_row rfl (.tmp 20) (.tmp 25) 35 rfl 0 34 i0 _ 5 40 Try.underlying35 Hi.out Hi0.out Hi1.out Hi2.out rfl (by decide) _ q _ rfl (Hrow.out.alloc _) _ 1 _ rfl (Reads.litAt _ _ _ 5 1 _ (by first | rfl | simp) rfl) (by simp [Value.oneCell']) (by unfold maxLen; omega) (by omega) (Nat.zero_le _) ?_; intro v4 w4 hown4 hk4 hf4; have hfr4 := (Hg.out.2.keep (Keeps.alloc _ _)).app hk4 hf4; have hg4 : Gath w (M ++ [⟨xk, xd, xt, xa, xf⟩]) v4 w4 := ⟨by rw [List.length_append, Hq.out, List.flatMap_append]; exact hown4, hfr4⟩; obtain ⟨ad4, c4, rfl, _, _⟩ := ownsRow_shape hown4; have Hg4 := Lib.hid hg4; clear hown4 hk4 hf4 hfr4 hg4)
        go_roundw
        case rel => exact ⟨i + 1, _, by go_num, by omega, Hp2.out, by rw [List.length_append, Hq.out]; simp; omega, Hg4.out⟩
        case measure => simp [intOf]; omega
      · have hdd : (xd == d) = false := beq_eq_false_iff_ne.2 hd
        have hp2 := filter_snoc_no (p := (Want.on d).p) hx (by simp [Want.p, *])
        rw [hM] at hp2
        have Hg := Lib.hid hg; clear hg; have HM := Lib.hid hM; clear hM; have Hx := Lib.hid hx; clear hx; have Hq := Lib.hid hq; clear hq; have Hp2 := Lib.hid hp2; clear hp2; have Hrow := Lib.hid hrow; clear hrow
        go_wp2
        go_roundw
        case rel => exact ⟨i + 1, _, by go_num, by omega, Hp2.out, by rw [Hq.out]; omega, by have := Hg.out; rw [← Hq.out] at this ⊢; exact this⟩
        case measure => simp [intOf]; omega
    · obtain rfl : i = n := by omega
      rw [List.take_of_length_le (by rw [Hn.out]; exact Nat.le_refl _)] at hM
      obtain ⟨adv, cv, rfl, _, _⟩ := ownsRow_shape hg.1
      have Hg := Lib.hid hg; clear hg; have HM := Lib.hid hM; clear hM; have Hq := Lib.hid hq; clear hq
      go_wp2
      go_ret
      exact ⟨_, rfl, by rw [HM.out]; exact Hg.out.1, Hg.out.2⟩
set_option maxRecDepth 100000 in
set_option maxHeartbeats 1600000 in
theorem rdatFrom_any (L : List Ev) (ad : Option Addr) (cap : Nat) (d : Int) (w : World) (hr : Reads w 5 (.slice ad L.length cap) L.length (L.flatMap Ev.cells)) (hl : L.length ≤ 1000000) : Calls Try.prog 23 #[.slice ad L.length cap, .int .i64 d] w (MakesEv w (L.filter (Want.frm d).p)) := by
  obtain ⟨i0, hi, hi0, hi1, hi2⟩ := info_parts info_tEvent
  obtain ⟨n, hn⟩ : ∃ n, L.length = n := ⟨_, rfl⟩
  rw [hn] at hr hl ⊢
  have Hi := Lib.hid hi; clear hi; have Hi0 := Lib.hid hi0; clear hi0; have Hi1 := Lib.hid hi1; clear hi1; have Hi2 := Lib.hid hi2; clear hi2; have Hn := Lib.hid hn; clear hn; have Hr := Lib.hid hr; clear hr
  go_enter Try.func23, Try.ntmps23
  go_wp2
  go_loopw [5, 6] (fun x y wx => ∃ (i : Nat) (M : List Ev), y = .int .i64 (i : Nat) ∧ i ≤ n ∧ (L.take i).filter (Want.frm d).p = M ∧ M.length ≤ i ∧ Gath w M x wx) (fun _ y _ => n - (intOf y).toNat)
  case atStart => exact ⟨0, [], rfl, Nat.zero_le _, rfl, Nat.zero_le _, Gath.nil w⟩
  case round =>
    obtain ⟨i, M, rfl, hin, hM, hMi, hg⟩ := hrel
    obtain ⟨q, hq⟩ : ∃ q, M.length = q := ⟨_, rfl⟩
    rw [hq] at hMi
    by_cases hlt : i < n
    · obtain ⟨⟨xk, xd, xt, xa, xf⟩, hx⟩ := get_some (L := L) (k := i) (by rw [Hn.out]; exact hlt)
      obtain ⟨g, o, c', he, hc⟩ := (Hr.out.keeps hg.2.1 (by simp)).elem Ev.cells_length hx (by decide)
      simp only [Value.slice.injEq, true_and] at he
      obtain ⟨rfl, rfl⟩ := he
      have x0 : wr.cell? ⟨g, o + i * 5, none⟩ = some (.int .i64 xk) := hc 0 (by decide)
      have x1 : wr.cell? ⟨g, o + i * 5 + 1, none⟩ = some (.int .i64 xd) := hc 1 (by decide)
      have x2 : wr.cell? ⟨g, o + i * 5 + 2, none⟩ = some (.int .i64 xt) := hc 2 (by decide)
      have x3 : wr.cell? ⟨g, o + i * 5 + 3, none⟩ = some (.int .i64 xa) := hc 3 (by decide)
      have x4 : wr.cell? ⟨g, o + i * 5 + 4, none⟩ = some (.int .i64 xf) := hc 4 (by decide)
      have hgl := cell_lt x0
      have hrow := hg.1
      obtain ⟨adv, cv, rfl, _, _⟩ := ownsRow_shape hg.1
      rw [hq] at hg hrow ⊢
      clear hc
      by_cases hd : d ≤ xd
      · have hp2 := filter_snoc_yes (p := (Want.frm d).p) hx (by simp [Want.p, *])
        rw [hM] at hp2
        skip
        have Hg := Lib.hid hg; clear hg; have HM := Lib.hid hM; clear hM; have Hx := Lib.hid hx; clear hx; have Hq := Lib.hid hq; clear hq; have Hp2 := Lib.hid hp2; clear hp2; have Hrow := Lib.hid hrow; clear hrow
        go_wp2_with (at_builtin; refine wpList_append_row rfl (.tmp 20) (.tmp 25) 35 rfl 0 34 i0 _ 5 40 Try.underlying35 Hi.out Hi0.out Hi1.out Hi2.out rfl (by decide) _ q _ rfl (Hrow.out.alloc _) _ 1 _ rfl (Reads.litAt _ _ _ 5 1 _ (by first | rfl | simp) rfl) (by simp [Value.oneCell']) (by unfold maxLen; omega) (by omega) (Nat.zero_le _) ?_; intro v4 w4 hown4 hk4 hf4; have hfr4 := (Hg.out.2.keep (Keeps.alloc _ _)).app hk4 hf4; have hg4 : Gath w (M ++ [⟨xk, xd, xt, xa, xf⟩]) v4 w4 := ⟨by rw [List.length_append, Hq.out, List.flatMap_append]; exact hown4, hfr4⟩; obtain ⟨ad4, c4, rfl, _, _⟩ := ownsRow_shape hown4; have Hg4 := Lib.hid hg4; clear hown4 hk4 hf4 hfr4 hg4)
        go_roundw
        case rel => exact ⟨i + 1, _, by go_num, by omega, Hp2.out, by rw [List.length_append, Hq.out]; simp; omega, Hg4.out⟩
        case measure => simp [intOf]; omega
      · have hdd : ¬ (d ≤ xd) := hd
        have hp2 := filter_snoc_no (p := (Want.frm d).p) hx (by simp [Want.p, *])
        rw [hM] at hp2
        have Hg := Lib.hid hg; clear hg; have HM := Lib.hid hM; clear hM; have Hx := Lib.hid hx; clear hx; have Hq := Lib.hid hq; clear hq; have Hp2 := Lib.hid hp2; clear hp2; have Hrow := Lib.hid hrow; clear hrow
        go_wp2
        go_roundw
        case rel => exact ⟨i + 1, _, by go_num, by omega, Hp2.out, by rw [Hq.out]; omega, by have := Hg.out; rw [← Hq.out] at this ⊢; exact this⟩
        case measure => simp [intOf]; omega
    · obtain rfl : i = n := by omega
      rw [List.take_of_length_le (by rw [Hn.out]; exact Nat.le_refl _)] at hM
      obtain ⟨adv, cv, rfl, _, _⟩ := ownsRow_shape hg.1
      have Hg := Lib.hid hg; clear hg; have HM := Lib.hid hM; clear hM; have Hq := Lib.hid hq; clear hq
      go_wp2
      go_ret
      exact ⟨_, rfl, by rw [HM.out]; exact Hg.out.1, Hg.out.2⟩
set_option maxRecDepth 100000 in
set_option maxHeartbeats 1600000 in
theorem rdatSort_any (L : List Ev) (ad : Option Addr) (cap : Nat) (w : World) (hr : Reads w 5 (.slice ad L.length cap) L.length (L.flatMap Ev.cells)) (hl : L.length ≤ 1000000) : Calls Try.prog 26 #[.slice ad L.length cap] w (MakesEv w (sortL L)) := by
  obtain ⟨n, hn⟩ : ∃ n, L.length = n := ⟨_, rfl⟩
  rw [hn] at hr hl ⊢
  have Hn := Lib.hid hn; clear hn; have Hr := Lib.hid hr; clear hr
  go_enter Try.func26, Try.ntmps26
  go_wp2
  go_loopw [3, 4] (fun x y wx => ∃ (i : Nat) (M : List Ev), y = .int .i64 (i : Nat) ∧ i ≤ n ∧ sortL (L.take i) = M ∧ M.length = i ∧ Gath w M x wx) (fun _ y _ => n - (intOf y).toNat)
  case atStart => exact ⟨0, [], rfl, Nat.zero_le _, rfl, rfl, Gath.nil w⟩
  case round =>
    obtain ⟨i, M, rfl, hin, hM, hq, hg⟩ := hrel
    by_cases hlt : i < n
    · obtain ⟨x, hx⟩ := get_some (L := L) (k := i) (by rw [Hn.out]; exact hlt)
      obtain ⟨g, o, c', he, hc⟩ := (Hr.out.keeps hg.2.1 (by simp)).elem Ev.cells_length hx (by decide)
      simp only [Value.slice.injEq, true_and] at he
      obtain ⟨rfl, rfl⟩ := he
      have hput := rdatPut_any x M _ wr hg.1 (by omega)
      have hp2 := sortL_snoc (L.take i) x
      rw [← take_snoc' hx, hM] at hp2
      obtain ⟨xk, xd, xt, xa, xf⟩ := x
      have x0 : wr.cell? ⟨g, o + i * 5, none⟩ = some (.int .i64 xk) := hc 0 (by decide)
      have x1 : wr.cell? ⟨g, o + i * 5 + 1, none⟩ = some (.int .i64 xd) := hc 1 (by decide)
      have x2 : wr.cell? ⟨g, o + i * 5 + 2, none⟩ = some (.int .i64 xt) := hc 2 (by decide)
      have x3 : wr.cell? ⟨g, o + i * 5 + 3, none⟩ = some (.int .i64 xa) := hc 3 (by decide)
      have x4 : wr.cell? ⟨g, o + i * 5 + 4, none⟩ = some (.int .i64 xf) := hc 4 (by decide)
      have hgl := cell_lt x0
      obtain ⟨adv, cv, rfl, _, _⟩ := ownsRow_shape hg.1
      have hlen : (putL M ⟨xk, xd, xt, xa, xf⟩).length = i + 1 := by rw [putL_length, hq]
      clear hc
      rw [hq] at hput ⊢
      simp only [Ev.agg] at hput
      have Hg := Lib.hid hg; clear hg; have HM := Lib.hid hM; clear hM; have Hx := Lib.hid hx; clear hx; have Hq := Lib.hid hq; clear hq; have Hp2 := Lib.hid hp2; clear hp2; have Hput := Lib.hid hput; clear hput; have Hlen := Lib.hid hlen; clear hlen
      go_wp2_with (go_at_call 18; (with_reducible refine Hput.out.mono ?_); rintro e w4 ⟨v4, rfl, hown4, hfr4⟩; have hg4 : Gath w _ v4 w4 := ⟨hown4, Hg.out.2.1.nt hfr4.1, fun g hg => by have := hfr4.2 g hg; have := Hg.out.2.1.size; omega⟩; obtain ⟨ad4, c4, rfl, _, _⟩ := ownsRow_shape hown4; have Hg4 := Lib.hid hg4; clear hown4 hfr4 hg4)
      go_roundw
      case rel => exact ⟨i + 1, _, by go_num, by omega, Hp2.out, Hlen.out, Hg4.out⟩
      case measure => simp [intOf]; omega
    · obtain rfl : i = n := by omega
      rw [List.take_of_length_le (by rw [Hn.out]; exact Nat.le_refl _)] at hM
      obtain ⟨adv, cv, rfl, _, _⟩ := ownsRow_shape hg.1
      have Hg := Lib.hid hg; clear hg; have HM := Lib.hid hM; clear hM; have Hq := Lib.hid hq; clear hq
      go_wp2
      go_ret
      exact ⟨_, rfl, by rw [HM.out]; exact Hg.out.1, Hg.out.2⟩
end Go.Proofs.Ytelhlbplbkglkaa
