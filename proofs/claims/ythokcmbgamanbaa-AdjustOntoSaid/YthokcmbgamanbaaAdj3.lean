/- The walks of the adjust layer: lists of statements, alike one by one; a copy of lines. -/
import Derived.Test.YthokcmbgamanbaaAdj2
import Derived.Test.YthokcmbgamanbaaPage6
namespace Go.Proofs.Ythokcmbgamanbaa
open Go.RowKit
theorem info_tLine : (Try.prog.info? 62).map (fun i => (i.zero, i.size, i.bytes)) = some (some (.agg #[.int .i64 0, .int .i64 0, .int .i64 0]), 3, 24) := by kernel_rfl
set_option maxRecDepth 100000 in
set_option maxHeartbeats 400000 in
/-- slices.Clone (cloneLine): a row of its own that reads as the one that was given. -/
theorem cloneLine_any (w : World) (v : Value) (n : Nat) (xs : List Value) (hr : Reads w 3 v n xs) (h1 : ∀ u ∈ xs, u.oneCell' = true) (hn : n ≤ 1000000000000) :
    Calls Try.prog 53 #[v] w fun e w' => ∃ v', e = .returned v' ∧ w'.ownsRow 0 62 3 v' n xs ∧ Keeps (fun _ => False) w w' ∧ (∀ k, v'.ownBlock = some k → w.heap.size ≤ k) := by
  obtain ⟨i0, hi, hz0, hz1, hz2⟩ := info_parts info_tLine
  have hr' := hr
  obtain ⟨ad, c, rfl, hnc, hl, hnone, hcells⟩ := hr'
  clear hcells
  have heq := fun (wx : World) (ad : Option Addr) (l c : Nat) => Lib.run_eql_slice_nil (P := Try.prog) wx 42 _ ad l c 0 0 Try.underlying42
  rcases ad with _ | a
  · obtain rfl := hnone rfl
    obtain rfl : n = 0 := by omega
    obtain rfl : xs = [] := List.eq_nil_of_length_eq_zero (by simpa using hl)
    have hr0 := Lib.hid hr; clear hr
    go_enter Try.func53, Try.ntmps53
    go_wp2
    go_ret
    exact ⟨_, rfl, World.ownsRow_nil _ _ _ _, Keeps.refl _ _, by simp [Value.ownBlock]⟩
  · have Hr := Lib.hid hr; clear hr
    have Hl := Lib.hid hl; clear hl; have Hnone := Lib.hid hnone; clear hnone; have H1 := Lib.hid h1; clear h1
    go_enter Try.func53, Try.ntmps53
    go_wp2_with (at_builtin; refine wpList_append_row rfl (.tmp 5) (.tmp 6) 42 rfl 0 62 i0 _ 3 24 Try.underlying42 hi hz0 hz1 hz2 rfl (by decide) _ 0 [] rfl (World.ownsRow_lit w #[] 0 (by omega) (by unfold maxLen; omega) rfl) _ n xs rfl (Hr.out.keeps (Keeps.alloc (S := fun _ => False) _ _) (by simp)) H1.out (by unfold maxLen; omega) (by omega) (by omega) ?_)
    intro v' w1 hown1 hk1 hfr
    have hend : w1.ownsRow 0 62 3 v' n xs ∧ Keeps (fun _ => False) w w1 ∧ (∀ k, v'.ownBlock = some k → w.heap.size ≤ k) := by
      refine ⟨by simpa using hown1, (Keeps.alloc w _).trans (hk1.mono fun k _ hk => ?_), fun k hk => ?_⟩
      · simp only [Value.ownBlock, Option.some.injEq] at hk; omega
      · rcases hfr with hf | ⟨g, hg, hh⟩
        · rw [hf] at hk; simp only [Value.ownBlock, Option.some.injEq] at hk; omega
        · rw [hg] at hk; simp only [Option.some.injEq] at hk; omega
    have Hend := Lib.hid hend; clear hend hown1 hk1 hfr
    go_wp2
    go_ret
    exact ⟨_, rfl, Hend.out⟩
/-- A statement and the slice of its lines, as they lie in a row. -/
structure SV where
  s : Stm
  ad : Option Addr
  cap : Nat
def SV.v (x : SV) : Value := .slice x.ad x.s.lines.length x.cap
def SV.cells (x : SV) : List Value := [.int .i64 x.s.cycle, .int .i64 x.s.fr, .int .i64 x.s.to, .int .i64 x.s.due, x.v, .int .i64 x.s.total, .int .i64 x.s.credit, .int .i64 x.s.min, .bool x.s.grace]
theorem SV.cells_length (x : SV) : x.cells.length = 9 := rfl
def Alike (L M : List SV) (n : Nat) : Prop := ∀ i a b, i < n → L[i]? = some a → M[i]? = some b → alikeB a.s b.s = true
theorem adjAlike_at (a b : Stm) (ad1 ad2 : Option Addr) (c1 c2 : Nat) (w : World) {r : Bool} (hr : alikeB a b = r) :
    Calls Try.prog 50 #[.agg #[.int .i64 a.cycle, .int .i64 a.fr, .int .i64 a.to, .int .i64 a.due, .slice ad1 a.lines.length c1, .int .i64 a.total, .int .i64 a.credit, .int .i64 a.min, .bool a.grace], .agg #[.int .i64 b.cycle, .int .i64 b.fr, .int .i64 b.to, .int .i64 b.due, .slice ad2 b.lines.length c2, .int .i64 b.total, .int .i64 b.credit, .int .i64 b.min, .bool b.grace]] w fun e w' => e = .returned (.bool r) ∧ Keeps (fun _ => False) w w' := by
  subst hr; exact adjAlike_any a b ad1 ad2 c1 c2 w
set_option maxRecDepth 100000 in
set_option maxHeartbeats 3200000 in
theorem equalStm_any (ad1 ad2 : Option Addr) (c1 c2 : Nat) (L M : List SV) (w : World) (h1 : Reads w 9 (.slice ad1 L.length c1) L.length (L.flatMap SV.cells)) (h2 : Reads w 9 (.slice ad2 M.length c2) M.length (M.flatMap SV.cells)) (hl : L.length ≤ 1000000) (hm : M.length ≤ 1000000) :
    Calls Try.prog 49 #[.slice ad1 L.length c1, .slice ad2 M.length c2, .func (.func 50) #[] #[]] w fun e w' => ∃ r : Bool, e = .returned (.bool r) ∧ (r = true ↔ L.length = M.length ∧ Alike L M L.length) ∧ Keeps (fun _ => False) w w' := by
  obtain ⟨n, hn⟩ : ∃ n, L.length = n := ⟨_, rfl⟩
  obtain ⟨m, hm'⟩ : ∃ m, M.length = m := ⟨_, rfl⟩
  rw [hn] at h1 hl ⊢
  rw [hm'] at h2 hm ⊢
  by_cases hnm : n = m
  · subst hnm
    have H1 := Lib.hid h1; clear h1; have H2 := Lib.hid h2; clear h2; have Hn := Lib.hid hn; clear hn; have Hm' := Lib.hid hm'; clear hm'
    go_enter Try.func49, Try.ntmps49
    go_wp2_with fail
    go_loopw [17] (fun c wr => ∃ j : Nat, j ≤ n ∧ c = .int .i64 (j : Nat) ∧ Alike L M j ∧ Keeps (fun _ => False) w wr) (fun c _ => n - (intOf c).toNat)
    case atStart => exact ⟨0, Nat.zero_le _, rfl, fun i a b h => by omega, Keeps.refl _ _⟩
    case round =>
      obtain ⟨j, hj, rfl, hal, hk⟩ := hrel
      by_cases hjn : j < n
      · obtain ⟨a, ha⟩ := get_some (L := L) (k := j) (by rw [Hn.out]; exact hjn)
        obtain ⟨b, hb⟩ := get_some (L := M) (k := j) (by rw [Hm'.out]; exact hjn)
        obtain ⟨g, o, c, he, hc⟩ := (H1.out.keeps hk (by simp)).elem SV.cells_length ha (by decide)
        obtain ⟨g', o', c', he', hc'⟩ := (H2.out.keeps hk (by simp)).elem SV.cells_length hb (by decide)
        simp only [Value.slice.injEq, true_and] at he he'
        obtain ⟨rfl, rfl⟩ := he
        obtain ⟨rfl, rfl⟩ := he'
        have x0 : wr.cell? ⟨g, o + j * 9, none⟩ = some (.int .i64 a.s.cycle) := hc 0 (by decide)
        have x1 : wr.cell? ⟨g, o + j * 9 + 1, none⟩ = some (.int .i64 a.s.fr) := hc 1 (by decide)
        have x2 : wr.cell? ⟨g, o + j * 9 + 2, none⟩ = some (.int .i64 a.s.to) := hc 2 (by decide)
        have x3 : wr.cell? ⟨g, o + j * 9 + 3, none⟩ = some (.int .i64 a.s.due) := hc 3 (by decide)
        have x4 : wr.cell? ⟨g, o + j * 9 + 4, none⟩ = some (.slice a.ad a.s.lines.length a.cap) := hc 4 (by decide)
        have x5 : wr.cell? ⟨g, o + j * 9 + 5, none⟩ = some (.int .i64 a.s.total) := hc 5 (by decide)
        have x6 : wr.cell? ⟨g, o + j * 9 + 6, none⟩ = some (.int .i64 a.s.credit) := hc 6 (by decide)
        have x7 : wr.cell? ⟨g, o + j * 9 + 7, none⟩ = some (.int .i64 a.s.min) := hc 7 (by decide)
        have x8 : wr.cell? ⟨g, o + j * 9 + 8, none⟩ = some (.bool a.s.grace) := hc 8 (by decide)
        have y0 : wr.cell? ⟨g', o' + j * 9, none⟩ = some (.int .i64 b.s.cycle) := hc' 0 (by decide)
        have y1 : wr.cell? ⟨g', o' + j * 9 + 1, none⟩ = some (.int .i64 b.s.fr) := hc' 1 (by decide)
        have y2 : wr.cell? ⟨g', o' + j * 9 + 2, none⟩ = some (.int .i64 b.s.to) := hc' 2 (by decide)
        have y3 : wr.cell? ⟨g', o' + j * 9 + 3, none⟩ = some (.int .i64 b.s.due) := hc' 3 (by decide)
        have y4 : wr.cell? ⟨g', o' + j * 9 + 4, none⟩ = some (.slice b.ad b.s.lines.length b.cap) := hc' 4 (by decide)
        have y5 : wr.cell? ⟨g', o' + j * 9 + 5, none⟩ = some (.int .i64 b.s.total) := hc' 5 (by decide)
        have y6 : wr.cell? ⟨g', o' + j * 9 + 6, none⟩ = some (.int .i64 b.s.credit) := hc' 6 (by decide)
        have y7 : wr.cell? ⟨g', o' + j * 9 + 7, none⟩ = some (.int .i64 b.s.min) := hc' 7 (by decide)
        have y8 : wr.cell? ⟨g', o' + j * 9 + 8, none⟩ = some (.bool b.s.grace) := hc' 8 (by decide)
        have hgl := cell_lt x0
        have hgl' := cell_lt y0
        clear hc hc'
        rcases hab : alikeB a.s b.s with _ | _
        · have hno : ¬ Alike L M n := fun h => by have := h j a b hjn ha hb; rw [hab] at this; simp at this
          have Ha := Lib.hid ha; clear ha; have Hb := Lib.hid hb; clear hb; have Hal := Lib.hid hal; clear hal; have Hk := Lib.hid hk; clear hk; have Hab := Lib.hid hab; clear hab; have Hno := Lib.hid hno; clear hno
          go_wp2_with (go_at_call 50; refine (adjAlike_at _ _ _ _ _ _ _ Hab.out).mono ?_; rintro e w3 ⟨rfl, hk3⟩; have Hk3 := Lib.hid hk3; clear hk3)
          go_ret
          exact ⟨false, rfl, by simp; exact Hno.out, (Hk.out.none_trans ((Keeps.alloc _ _).none_trans (Keeps.alloc _ _))).none_trans Hk3.out⟩
        · have hal' : Alike L M (j + 1) := fun i a' b' hi ha' hb' => by
            by_cases hij : i < j
            · exact hal i a' b' hij ha' hb'
            · obtain rfl : i = j := by omega
              rw [ha] at ha'; rw [hb] at hb'
              cases ha'; cases hb'; exact hab
          have Ha := Lib.hid ha; clear ha; have Hb := Lib.hid hb; clear hb; have Hal := Lib.hid hal; clear hal; have Hk := Lib.hid hk; clear hk; have Hab := Lib.hid hab; clear hab; have Hal' := Lib.hid hal'; clear hal'
          go_wp2_with (go_at_call 50; refine (adjAlike_at _ _ _ _ _ _ _ Hab.out).mono ?_; rintro e w3 ⟨rfl, hk3⟩; have Hk3 := Lib.hid hk3; clear hk3)
          go_roundw
          case rel => exact ⟨j + 1, by omega, by go_num, Hal'.out, (Hk.out.none_trans ((Keeps.alloc _ _).none_trans (Keeps.alloc _ _))).none_trans Hk3.out⟩
          case measure => simp [intOf]; omega
      · obtain rfl : j = n := by omega
        have Hal := Lib.hid hal; clear hal; have Hk := Lib.hid hk; clear hk
        go_wp2_with fail
        go_ret
        exact ⟨true, rfl, by simp; exact Hal.out, Hk.out⟩
  · have hnm' : ¬ (n : Int) = (m : Int) := by omega
    have H1 := Lib.hid h1; clear h1; have H2 := Lib.hid h2; clear h2; have Hn := Lib.hid hn; clear hn; have Hm' := Lib.hid hm'; clear hm'
    go_enter Try.func49, Try.ntmps49
    go_wp2_with fail
    go_ret
    exact ⟨false, rfl, by simp [hnm], Keeps.refl _ _⟩
end Go.Proofs.Ythokcmbgamanbaa
