/- The generic functions at disputes: Clone, Plain. -/
import Derived.Test.YtmiafnndoioddaaKit
namespace Go.Proofs.Ytmiafnndoioddaa
open Go.RowKit
theorem info_tDisp : (Try.prog.info? 32).map (fun i => (i.zero, i.size, i.bytes)) = some (some (.agg #[.int .i64 0, .int .i64 0, .int .i64 0, .int .i64 0, .int .i64 0]), 5, 40) := by kernel_rfl
set_option maxRecDepth 100000 in
set_option maxHeartbeats 400000 in
/-- slices.Clone (cloneDisp): a row of its own that reads as the one that was given. -/
theorem cloneDisp_any (w : World) (v : Value) (n : Nat) (xs : List Value) (hr : Reads w 5 v n xs) (h1 : ∀ u ∈ xs, u.oneCell' = true) (hn : n ≤ 1000000000000) :
    Calls Try.prog 19 #[v] w fun e w' => ∃ v', e = .returned v' ∧ w'.ownsRow 0 32 5 v' n xs ∧ Keeps (fun _ => False) w w' ∧ (∀ k, v'.ownBlock = some k → w.heap.size ≤ k) := by
  obtain ⟨i0, hi, hz0, hz1, hz2⟩ := info_parts info_tDisp
  have hr' := hr
  obtain ⟨ad, c, rfl, hnc, hl, hnone, hcells⟩ := hr'
  clear hcells
  have heq := fun (wx : World) (ad : Option Addr) (l c : Nat) => Lib.run_eql_slice_nil (P := Try.prog) wx 40 _ ad l c 0 0 Try.underlying40
  rcases ad with _ | a
  · obtain rfl := hnone rfl
    obtain rfl : n = 0 := by omega
    obtain rfl : xs = [] := List.eq_nil_of_length_eq_zero (by simpa using hl)
    have hr0 := Lib.hid hr; clear hr
    go_enter Try.func19, Try.ntmps19
    go_wp2
    go_ret
    exact ⟨_, rfl, World.ownsRow_nil _ _ _ _, Keeps.refl _ _, by simp [Value.ownBlock]⟩
  · have Hr := Lib.hid hr; clear hr
    have Hl := Lib.hid hl; clear hl; have Hnone := Lib.hid hnone; clear hnone; have H1 := Lib.hid h1; clear h1
    go_enter Try.func19, Try.ntmps19
    go_wp2_with (at_builtin; refine wpList_append_row rfl (.tmp 5) (.tmp 6) 40 rfl 0 32 i0 _ 5 40 Try.underlying40 hi hz0 hz1 hz2 rfl (by decide) _ 0 [] rfl (World.ownsRow_lit w #[] 0 (by omega) (by unfold maxLen; omega) rfl) _ n xs rfl (Hr.out.keeps (Keeps.alloc (S := fun _ => False) _ _) (by simp)) H1.out (by unfold maxLen; omega) (by omega) (by omega) ?_)
    intro v' w1 hown1 hk1 hfr
    have hend : w1.ownsRow 0 32 5 v' n xs ∧ Keeps (fun _ => False) w w1 ∧ (∀ k, v'.ownBlock = some k → w.heap.size ≤ k) := by
      refine ⟨by simpa using hown1, (Keeps.alloc w _).trans (hk1.mono fun k _ hk => ?_), fun k hk => ?_⟩
      · simp only [Value.ownBlock, Option.some.injEq] at hk; omega
      · rcases hfr with hf | ⟨g, hg, hh⟩
        · rw [hf] at hk; simp only [Value.ownBlock, Option.some.injEq] at hk; omega
        · rw [hg] at hk; simp only [Option.some.injEq] at hk; omega
    have Hend := Lib.hid hend; clear hend hown1 hk1 hfr
    go_wp2
    go_ret
    exact ⟨_, rfl, Hend.out⟩
/-- Disp, as the program has it. -/
structure Disp where
  ref : Int
  tranche : Int
  day : Int
  amount : Int
  state : Int
deriving DecidableEq, Inhabited
def Disp.cells (d : Disp) : List Value := [.int .i64 d.ref, .int .i64 d.tranche, .int .i64 d.day, .int .i64 d.amount, .int .i64 d.state]
theorem Disp.cells_length (d : Disp) : d.cells.length = 5 := rfl
theorem Disp.one (L : List Disp) : ∀ u ∈ L.flatMap Disp.cells, u.oneCell' = true := by
  intro u hu
  obtain ⟨d, _, hd⟩ := List.mem_flatMap.1 hu
  simp only [Disp.cells, List.mem_cons, List.not_mem_nil, or_false] at hd
  rcases hd with rfl | rfl | rfl | rfl | rfl <;> rfl
set_option maxRecDepth 100000 in
set_option maxHeartbeats 400000 in
theorem plainDisp1_same (a0 : Int) (a1 : Int) (a2 : Int) (a3 : Int) (a4 : Int) (w : World) : Calls Try.prog 21 #[.agg #[.int .i64 a0, .int .i64 a1, .int .i64 a2, .int .i64 a3, .int .i64 a4], .agg #[.int .i64 a0, .int .i64 a1, .int .i64 a2, .int .i64 a3, .int .i64 a4]] w
    fun e w' => e = .returned (.bool true) ∧ Keeps (fun _ => False) w w' := by
  go_enter Try.func21, Try.ntmps21
  go_wp2
  go_ret
  exact ⟨rfl, (Keeps.alloc _ _).trans (Keeps.alloc _ _)⟩
set_option maxRecDepth 100000 in
set_option maxHeartbeats 400000 in
theorem sameDisp_same (L : List Disp) (v1 v2 : Value) (w : World) (h1 : Reads w 5 v1 L.length (L.flatMap Disp.cells)) (h2 : Reads w 5 v2 L.length (L.flatMap Disp.cells)) (hl : L.length ≤ 1000000000000) :
    Calls Try.prog 20 #[v1, v2, .func (.func 21) #[] #[]] w fun e w' => e = .returned (.bool true) ∧ Keeps (fun _ => False) w w' := by
  have g1 := h1
  have g2 := h2
  obtain ⟨ad1, c1, rfl, _, _⟩ := g1
  obtain ⟨ad2, c2, rfl, _, _⟩ := g2
  have H1 := Lib.hid h1; clear h1; have H2 := Lib.hid h2; clear h2
  go_enter Try.func20, Try.ntmps20
  go_wp2
  go_loopw [7] (fun i wr => ∃ k : Nat, k ≤ L.length ∧ i = .int .i64 k ∧ Keeps (fun _ => False) w wr) (fun i _ => L.length - (intOf i).toNat)
  case atStart => exact ⟨0, Nat.zero_le _, rfl, Keeps.refl _ _⟩
  case round =>
    obtain ⟨k, hk, rfl, hkp⟩ := hrel
    have Hkp := Lib.hid hkp; clear hkp
    by_cases hlt : k < L.length
    · obtain ⟨x, hx⟩ : ∃ x, L[k]? = some x := ⟨L[k], List.getElem?_eq_getElem hlt⟩
      obtain ⟨g, o, c, he, hc⟩ := (H1.out.keeps Hkp.out (by simp)).elem Disp.cells_length hx (by decide)
      obtain ⟨g', o', c', he', hc'⟩ := (H2.out.keeps Hkp.out (by simp)).elem Disp.cells_length hx (by decide)
      simp only [Value.slice.injEq, true_and] at he he'
      obtain ⟨rfl, rfl⟩ := he
      obtain ⟨rfl, rfl⟩ := he'
      obtain ⟨e0, e1, e2, e3, e4⟩ := x
      have x0 : wr.cell? ⟨g, o + k * 5, none⟩ = some (.int .i64 e0) := hc 0 (by decide)
      have x1 : wr.cell? ⟨g, o + k * 5 + 1, none⟩ = some (.int .i64 e1) := hc 1 (by decide)
      have x2 : wr.cell? ⟨g, o + k * 5 + 2, none⟩ = some (.int .i64 e2) := hc 2 (by decide)
      have x3 : wr.cell? ⟨g, o + k * 5 + 3, none⟩ = some (.int .i64 e3) := hc 3 (by decide)
      have x4 : wr.cell? ⟨g, o + k * 5 + 4, none⟩ = some (.int .i64 e4) := hc 4 (by decide)
      have y0 : wr.cell? ⟨g', o' + k * 5, none⟩ = some (.int .i64 e0) := hc' 0 (by decide)
      have y1 : wr.cell? ⟨g', o' + k * 5 + 1, none⟩ = some (.int .i64 e1) := hc' 1 (by decide)
      have y2 : wr.cell? ⟨g', o' + k * 5 + 2, none⟩ = some (.int .i64 e2) := hc' 2 (by decide)
      have y3 : wr.cell? ⟨g', o' + k * 5 + 3, none⟩ = some (.int .i64 e3) := hc' 3 (by decide)
      have y4 : wr.cell? ⟨g', o' + k * 5 + 4, none⟩ = some (.int .i64 e4) := hc' 4 (by decide)
      clear hc hc'
      have Hx := Lib.hid hx; clear hx
      go_wp2
      go_still_tail 9, (by kernel_rfl)
      go_wp2_with (go_at_call 21; refine (plainDisp1_same _ _ _ _ _ _).mono ?_; rintro e w' ⟨rfl, hk2⟩; have Hk2 := Lib.hid hk2; clear hk2)
      go_roundw
      case rel => exact ⟨k + 1, by omega, by go_num, (Hkp.out.trans ((Keeps.drew _).trans (Hk2.out.mono (by simp))))⟩
      case measure => simp [intOf]; omega
    · go_wp2
      go_ret
      exact ⟨rfl, Hkp.out⟩
set_option maxRecDepth 100000 in
set_option maxHeartbeats 400000 in
theorem plainDisp_same (L : List Disp) (v1 v2 : Value) (w : World) (h1 : Reads w 5 v1 L.length (L.flatMap Disp.cells)) (h2 : Reads w 5 v2 L.length (L.flatMap Disp.cells)) (hl : L.length ≤ 1000000000000) :
    Calls Try.prog 17 #[v1, v2] w fun e w' => e = .returned (.bool true) ∧ Keeps (fun _ => False) w w' := by
  have H1 := Lib.hid h1; clear h1; have H2 := Lib.hid h2; clear h2
  go_enter Try.func17, Try.ntmps17
  go_wp2_with (go_at_call 20; refine (sameDisp_same L _ _ _ H1.out H2.out hl).mono ?_; rintro e w' ⟨rfl, hk2⟩; have Hk2 := Lib.hid hk2; clear hk2)
  go_ret
  exact ⟨rfl, Hk2.out⟩
end Go.Proofs.Ytmiafnndoioddaa
