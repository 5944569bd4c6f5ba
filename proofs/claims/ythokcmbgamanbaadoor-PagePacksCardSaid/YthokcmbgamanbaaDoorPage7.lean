/- The walks of the page layer: which statement bytes are. -/
import Derived.Test.YthokcmbgamanbaaDoorPage6
import Derived.Test.YthokcmbgamanbaaDoorScope
namespace Go.Proofs.YthokcmbgamanbaaDoor
open Go.RowKit
/-- The lines that are read, from number 9 on. -/
def lnR (B : List Int) (k : Nat) : Ln := ⟨numR B (9 + 3 * k), numR B (9 + 3 * k + 1), numR B (9 + 3 * k + 1 + 1)⟩
def lnsR (B : List Int) : Nat → List Ln
  | 0 => []
  | n + 1 => lnsR B n ++ [lnR B n]
theorem lnsR_length (B : List Int) (n : Nat) : (lnsR B n).length = n := by induction n with
  | zero => rfl
  | succ n ih => simp [lnsR, ih]
theorem lnsR_eq {B : List Int} (n : Nat) (h : 72 + 24 * n ≤ B.length) : lnsR B n = lnsAt B n := by
  induction n with
  | zero => rfl
  | succ n ih =>
    rw [lnsR, lnsAt, ih (by omega)]
    congr 2
    unfold lnR lnAt numR
    rw [if_pos (by omega), if_pos (by omega), if_pos (by omega)]
def z9 (v : Value) : Array Value := #[.int .i64 0, .int .i64 0, .int .i64 0, .int .i64 0, v, .int .i64 0, .int .i64 0, .int .i64 0, .bool false]
/-- Whilst a statement is taken: the reader, the result's block. -/
structure PT (w wr : World) (B : List Int) (p : Nat) : Prop where
  rd : WRd w.heap.size wr (w.heap.size + 1) B p
  res : wr.heap[w.heap.size]? = some (.cells (z9 (.slice none 0 0)) 26 (0, 0))
  kp : Keeps (fun _ => False) w wr
theorem PT.num {w wr w' : World} {B : List Int} {p : Nat} (h : PT w wr B p) (hr : WRd w.heap.size w' (w.heap.size + 1) B (p + 1)) (hk : Keeps (fun j => j = w.heap.size + 1) wr w') : PT w w' B (p + 1) :=
  ⟨hr, box_old h.res hk (by omega), h.kp.trans (hk.mono fun k _ e => by right; omega)⟩
theorem PT.keep {S : Nat → Prop} {w wr w' : World} {B : List Int} {p : Nat} (h : PT w wr B p) (hk : Keeps S wr w') (hS : ∀ j, S j → w.heap.size + 2 ≤ j) : PT w w' B p :=
  ⟨h.rd.keeps hk (fun j hj => by have := hS j hj; omega), box_old h.res hk (fun hs => by have := hS _ hs; omega), h.kp.trans (hk.mono fun k _ hs => by right; have := hS k hs; omega)⟩
theorem PT.size {w wr : World} {B : List Int} {p : Nat} (h : PT w wr B p) : w.heap.size + 2 ≤ wr.heap.size := by
  obtain ⟨⟨ad, m, c, sh, h1, _⟩, _⟩ := h.rd
  have := lt_of_block h1; omega
/-- .. and the statement's block, with its row of lines. -/
structure PS (w wr : World) (B : List Int) (p T : Nat) (C : Array Value) (v : Value) (L : List Ln) : Prop where
  pt : PT w wr B p
  blk : wr.heap[T]? = some (.cells C 26 (0, 0))
  tn : w.heap.size + 2 ≤ T
  row : wr.ownsRow 0 30 3 v L.length (L.flatMap Ln.cells)
  nw : ∀ g, v.ownBlock = some g → w.heap.size + 2 ≤ g
section
variable {w wr w' : World} {B : List Int} {p T : Nat} {C : Array Value} {v : Value} {L : List Ln}
theorem PS.num (h : PS w wr B p T C v L) (hr : WRd w.heap.size w' (w.heap.size + 1) B (p + 1)) (hk : Keeps (fun j => j = w.heap.size + 1) wr w') : PS w w' B (p + 1) T C v L :=
  ⟨h.pt.num hr hk, box_old h.blk hk (by have := h.tn; omega), h.tn, hk.row h.row (fun g hg e => by have := h.nw g hg; omega), h.nw⟩
theorem PS.keep {S : Nat → Prop} (h : PS w wr B p T C v L) (hk : Keeps S wr w') (hS : ∀ j, S j → w.heap.size + 2 ≤ j ∧ j ≠ T ∧ v.ownBlock ≠ some j) : PS w w' B p T C v L :=
  ⟨h.pt.keep hk (fun j hj => (hS j hj).1), box_old h.blk hk (fun hs => (hS _ hs).2.1 rfl), h.tn, hk.row h.row (fun g hg e => (hS g e).2.2 hg), h.nw⟩
theorem PS.new (h : PT w wr B p) (cs : Array Value) : PS w (wr.alloc (.cells cs 26)) B p wr.heap.size cs (.slice none 0 0) [] :=
  ⟨h.keep (Keeps.alloc (S := fun _ => False) _ _) (by simp), heap_alloc_new _ _, h.size, World.ownsRow_nil _ _ _ _, by simp [Value.ownBlock]⟩
theorem PS.set (h : PS w wr B p T C v L) (i : Nat) (x : Value) : PS w (wr.setCell ⟨T, i, none⟩ x) B p T (C.setIfInBounds i x) v L :=
  have hk : Keeps (fun j => j = T) wr (wr.setCell ⟨T, i, none⟩ x) := Keeps.setCell _ _ _ rfl
  ⟨h.pt.keep hk (fun j hj => by subst hj; exact h.tn), heap_setCell_same _ _ i _ _ _ h.blk, h.tn, ownsRow_setCell_other h.row (ownsRow_ne h.row h.blk (by decide)) _, h.nw⟩
end
theorem PS.app {w wr w4 : World} {B : List Int} {p T n : Nat} {C : Array Value} {v v4 : Value} {L : List Ln} {o : Obj} {xs : List Value} (h : PS w wr B p T C v L) (x : Ln) (hn : n = L.length + 1) (hx : xs = L.flatMap Ln.cells ++ x.cells) (ho : w4.ownsRow 0 30 3 v4 n xs) (hk : Keeps (fun k => v.ownBlock = some k) (wr.alloc o) w4)
    (hf : v4.ownBlock = v.ownBlock ∨ ∃ g, v4.ownBlock = some g ∧ wr.heap.size + 1 ≤ g) : PS w w4 B p T C v4 (L ++ [x]) := by
  subst hn hx
  have hk' : Keeps (fun k => v.ownBlock = some k) wr w4 := (Keeps.alloc _ _).trans (hk.mono fun _ _ h => .inl h)
  have hs := h.pt.size
  refine ⟨h.pt.keep hk' (fun j hj => h.nw j hj), box_old h.blk hk' (ownsRow_ne h.row h.blk (by decide)), h.tn, by simpa [List.flatMap_append] using ho, fun g hg => ?_⟩
  rcases hf with e | ⟨g', h1, h2⟩
  · exact h.nw g (by rw [← e]; exact hg)
  · rw [h1] at hg; simp only [Option.some.injEq] at hg; omega
def TakePost (B : List Int) (w : World) (e : Ending) (w' : World) : Prop :=
  ∃ v, e = .returned (.tuple #[(takeStm B).val v, .int .i64 (takeErr B)]) ∧ w'.ownsRow 0 30 3 v (takeStm B).lines.length ((takeStm B).lines.flatMap Ln.cells) ∧ (∀ g, v.ownBlock = some g → w.heap.size ≤ g) ∧ Keeps (fun _ => False) w w'
theorem TakePost.bad {B : List Int} {w w' : World} {n : Int} (he : takeErr B = n) (hn : n ≠ 0) (hk : Keeps (fun _ => False) w w') : TakePost B w (.returned (.tuple #[.agg (z9 (.slice none 0 0)), .int .i64 n])) w' := by
  have hs : takeStm B = stm0P := by unfold takeStm; rw [if_neg (by omega)]
  refine ⟨.slice none 0 0, ?_, ?_, by simp [Value.ownBlock], hk⟩
  · rw [hs, he]; rfl
  · rw [hs]; exact World.ownsRow_nil _ _ _ _
theorem keeps_set9 {w w' : World} (h : Keeps (fun _ => False) w w') (g : Nat) (hg : w.heap.size ≤ g) (u0 u1 u2 u3 u4 u5 u6 u7 u8 : Value) :
    Keeps (fun _ => False) w (((((((((w'.setCell ⟨g, 0, none⟩ u0).setCell ⟨g, 1, none⟩ u1).setCell ⟨g, 2, none⟩ u2).setCell ⟨g, 3, none⟩ u3).setCell ⟨g, 4, none⟩ u4).setCell ⟨g, 5, none⟩ u5).setCell ⟨g, 6, none⟩ u6).setCell ⟨g, 7, none⟩ u7).setCell ⟨g, 8, none⟩ u8) :=
  ((((((((h.trans (Keeps.setCell _ _ _ (.inr hg))).trans (Keeps.setCell _ _ _ (.inr hg))).trans (Keeps.setCell _ _ _ (.inr hg))).trans (Keeps.setCell _ _ _ (.inr hg))).trans (Keeps.setCell _ _ _ (.inr hg))).trans (Keeps.setCell _ _ _ (.inr hg))).trans (Keeps.setCell _ _ _ (.inr hg))).trans (Keeps.setCell _ _ _ (.inr hg))).trans (Keeps.setCell _ _ _ (.inr hg))
theorem PT.start {w w1 : World} {B : List Int} (hr : WRd w.heap.size w1 (w.heap.size + 1) B 0) (hk : Keeps (fun _ => False) (w.alloc (.cells (z9 (.slice none 0 0)) 26)) w1) : PT w w1 B 0 :=
  ⟨hr, box_new hk (by simp), (Keeps.alloc _ _).trans (hk.mono (by simp))⟩
theorem wShort_is {lo b p : Nat} {B : List Int} {w : World} (h : WRd lo w b B p) {x : Bool} (hx : decide (B.length < 8 * p) = x) : Calls Tryd.prog 34 #[(.pointer (some ⟨b, 0, none⟩))] w fun e w' => e = .returned (.bool x) ∧ w = w' := by
  subst hx; exact wShort_at h
set_option maxRecDepth 100000 in
set_option maxHeartbeats 6400000 in
theorem pageTake_any (ad : Option Addr) (cap : Nat) (B : List Int) (w : World) (hr : Reads w 1 (.slice ad B.length cap) B.length (B.flatMap u8c)) (hB : ∀ z ∈ B, 0 ≤ z ∧ z ≤ 255) (hBl : B.length ≤ 1000000) :
    Calls Tryd.prog 14 #[.slice ad B.length cap] w (TakePost B w) := by
  have hBl : B.length ≤ 1000000000 := by omega
  obtain ⟨i0, hi, hi0, hi1, hi2⟩ := info_parts info_tLine
  have hlo : 0 < B.length → ∀ g, (Value.slice ad B.length cap).ownBlock = some g → g < w.heap.size := fun h0 g hg => by
    obtain ⟨g', h1, h2⟩ := hr.lt (by intro e; have := congrArg List.length e; rw [flat_length u8c_length] at this; simp at this; simp [this] at h0)
    rw [h1] at hg; cases hg; exact h2
  have hnew := wideNew_at w.heap.size ad cap B (w.alloc (.cells (z9 (.slice none 0 0)) 26)) (hr.alloc _) hlo (by simp)
  have hsz : (w.alloc (.cells (z9 (.slice none 0 0)) 26)).heap.size = w.heap.size + 1 := by simp
  rw [hsz] at hnew
  obtain ⟨z0, hz0⟩ : ∃ z, numR B 0 = z := ⟨_, rfl⟩
  obtain ⟨z1, hz1⟩ : ∃ z, numR B (0 + 1) = z := ⟨_, rfl⟩
  obtain ⟨z2, hz2⟩ : ∃ z, numR B (0 + 1 + 1) = z := ⟨_, rfl⟩
  obtain ⟨z3, hz3⟩ : ∃ z, numR B (0 + 1 + 1 + 1) = z := ⟨_, rfl⟩
  obtain ⟨z4, hz4⟩ : ∃ z, numR B (0 + 1 + 1 + 1 + 1) = z := ⟨_, rfl⟩
  obtain ⟨z5, hz5⟩ : ∃ z, numR B (0 + 1 + 1 + 1 + 1 + 1) = z := ⟨_, rfl⟩
  obtain ⟨z6, hz6⟩ : ∃ z, numR B (0 + 1 + 1 + 1 + 1 + 1 + 1) = z := ⟨_, rfl⟩
  obtain ⟨z7, hz7⟩ : ∃ z, numR B (0 + 1 + 1 + 1 + 1 + 1 + 1 + 1) = z := ⟨_, rfl⟩
  obtain ⟨z8, hz8⟩ : ∃ z, numR B 8 = z := ⟨_, rfl⟩
  have Hr := Lib.hid hr; clear hr; have HB := Lib.hid hB; clear hB; have Hlo := Lib.hid hlo; clear hlo; have Hnew := Lib.hid hnew; clear hnew; have Hsz := Lib.hid hsz; clear hsz; have Hz0 := Lib.hid hz0; clear hz0; have Hz1 := Lib.hid hz1; clear hz1; have Hz2 := Lib.hid hz2; clear hz2; have Hz3 := Lib.hid hz3; clear hz3; have Hz4 := Lib.hid hz4; clear hz4; have Hz5 := Lib.hid hz5; clear hz5; have Hz6 := Lib.hid hz6; clear hz6; have Hz7 := Lib.hid hz7; clear hz7; have Hz8 := Lib.hid hz8; clear hz8
  go_enter Tryd.func14, Tryd.ntmps14
  go_wp2
  refine wp_scope_ahead2 1 0 rfl rfl ?_
  go_wp2_with fail
  refine Hnew.out.mono ?_
  rintro e w1 ⟨rfl, hr, hk⟩
  have HA := Lib.hid (PT.start hr hk)
  clear hr hk
  go_wp2_with fail
  refine (wInt_at HA.out.rd hBl HB.out Hz0.out).mono ?_
  rintro e wa ⟨rfl, hr, hk⟩
  have Hwa := Lib.hid (HA.out.num hr hk)
  clear hr hk
  go_wp2_with fail
  refine (wInt_at Hwa.out.rd hBl HB.out Hz1.out).mono ?_
  rintro e wb ⟨rfl, hr, hk⟩
  have Hwb := Lib.hid (Hwa.out.num hr hk)
  clear hr hk
  go_wp2_with fail
  refine (wInt_at Hwb.out.rd hBl HB.out Hz2.out).mono ?_
  rintro e wc ⟨rfl, hr, hk⟩
  have Hwc := Lib.hid (Hwb.out.num hr hk)
  clear hr hk
  go_wp2_with fail
  refine (wInt_at Hwc.out.rd hBl HB.out Hz3.out).mono ?_
  rintro e wd ⟨rfl, hr, hk⟩
  have Hwd := Lib.hid (Hwc.out.num hr hk)
  clear hr hk
  go_wp2_with fail
  refine (wNum_at Hwd.out.rd hBl HB.out Hz4.out).mono ?_
  rintro e we ⟨rfl, hr, hk⟩
  have Hwe := Lib.hid (Hwd.out.num hr hk)
  clear hr hk
  go_wp2_with fail
  refine (wNum_at Hwe.out.rd hBl HB.out Hz5.out).mono ?_
  rintro e wf ⟨rfl, hr, hk⟩
  have Hwf := Lib.hid (Hwe.out.num hr hk)
  clear hr hk
  go_wp2_with fail
  refine (wNum_at Hwf.out.rd hBl HB.out Hz6.out).mono ?_
  rintro e wg ⟨rfl, hr, hk⟩
  have Hwg := Lib.hid (Hwf.out.num hr hk)
  clear hr hk
  go_wp2_with fail
  have Hps : Hid (PS w _ B 7 wg.heap.size _ _ []) := Lib.hid (PS.new Hwg.out #[.int .i64 z0, .int .i64 z1, .int .i64 z2, .int .i64 z3, .slice none 0 0, .int .i64 z4, .int .i64 z5, .int .i64 z6, .bool false])
  refine (wNum_at Hps.out.pt.rd hBl HB.out Hz7.out).mono ?_
  rintro e wh ⟨rfl, hr, hk⟩
  have Hph : Hid (PS w wh B 8 wg.heap.size _ _ []) := Lib.hid (Hps.out.num hr hk)
  clear hr hk
  by_cases hs1 : B.length < 64
  · have he : takeErr B = 3 := by unfold takeErr; rw [if_pos hs1]
    have hsd : decide (B.length < 8 * 8) = true := by simp; omega
    clear hs1
    have He := Lib.hid he; clear he; have Hsd := Lib.hid hsd; clear hsd
    have r0 : World.cell? _ (⟨w.heap.size, 0, none⟩ : Addr) = some (.int .i64 0) := cell_of_cells Hph.out.pt.res 0
    have r1 : World.cell? _ (⟨w.heap.size, 1, none⟩ : Addr) = some (.int .i64 0) := cell_of_cells Hph.out.pt.res 1
    have r2 : World.cell? _ (⟨w.heap.size, 2, none⟩ : Addr) = some (.int .i64 0) := cell_of_cells Hph.out.pt.res 2
    have r3 : World.cell? _ (⟨w.heap.size, 3, none⟩ : Addr) = some (.int .i64 0) := cell_of_cells Hph.out.pt.res 3
    have r4 : World.cell? _ (⟨w.heap.size, 4, none⟩ : Addr) = some (.slice none 0 0) := cell_of_cells Hph.out.pt.res 4
    have r5 : World.cell? _ (⟨w.heap.size, 5, none⟩ : Addr) = some (.int .i64 0) := cell_of_cells Hph.out.pt.res 5
    have r6 : World.cell? _ (⟨w.heap.size, 6, none⟩ : Addr) = some (.int .i64 0) := cell_of_cells Hph.out.pt.res 6
    have r7 : World.cell? _ (⟨w.heap.size, 7, none⟩ : Addr) = some (.int .i64 0) := cell_of_cells Hph.out.pt.res 7
    have r8 : World.cell? _ (⟨w.heap.size, 8, none⟩ : Addr) = some (.bool false) := cell_of_cells Hph.out.pt.res 8
    have f0 := free_of_cells Hph.out.pt.res 0
    have f1 := free_of_cells Hph.out.pt.res 1
    have f2 := free_of_cells Hph.out.pt.res 2
    have f3 := free_of_cells Hph.out.pt.res 3
    have f4 := free_of_cells Hph.out.pt.res 4
    have f5 := free_of_cells Hph.out.pt.res 5
    have f6 := free_of_cells Hph.out.pt.res 6
    have f7 := free_of_cells Hph.out.pt.res 7
    have f8 := free_of_cells Hph.out.pt.res 8
    have rl := lt_of_block Hph.out.pt.res
    go_wp2_with (go_at_call 34; refine (wShort_is Hph.out.pt.rd Hsd.out).mono ?_; rintro e w' ⟨rfl, rfl⟩)
    go_step3
    go_wp2
    refine jump2_2 ?_
    go_wp2
    rw [Exit.noGoto_ret]
    exact bodyPost_ret (v := .tuple #[.agg #[.int .i64 0, .int .i64 0, .int .i64 0, .int .i64 0, .slice none 0 0, .int .i64 0, .int .i64 0, .int .i64 0, .bool false], .int .i64 3]) (by simp [results, Tryd.results14, go_sem, r0, r1, r2, r3, r4, r5, r6, r7, r8, rl]) rfl (TakePost.bad He.out (by decide) (keeps_set9 Hph.out.pt.kp _ (Nat.le_refl _) _ _ _ _ _ _ _ _ _))
  · have hn7 : numAt B 7 = z7 := by rw [← Hz7.out]; unfold numR; rw [if_pos (by omega)]
    have hsd : decide (B.length < 8 * 8) = false := by simp; omega
    have Hn7 := Lib.hid hn7; clear hn7; have Hsd := Lib.hid hsd; clear hsd
    by_cases hs2 : z7 < 0 ∨ 1 < z7
    · have he : takeErr B = 4 := by unfold takeErr; rw [if_neg hs1, Hn7.out, if_pos hs2]
      have He := Lib.hid he; clear he
      have r0 : World.cell? _ (⟨w.heap.size, 0, none⟩ : Addr) = some (.int .i64 0) := cell_of_cells Hph.out.pt.res 0
      have r1 : World.cell? _ (⟨w.heap.size, 1, none⟩ : Addr) = some (.int .i64 0) := cell_of_cells Hph.out.pt.res 1
      have r2 : World.cell? _ (⟨w.heap.size, 2, none⟩ : Addr) = some (.int .i64 0) := cell_of_cells Hph.out.pt.res 2
      have r3 : World.cell? _ (⟨w.heap.size, 3, none⟩ : Addr) = some (.int .i64 0) := cell_of_cells Hph.out.pt.res 3
      have r4 : World.cell? _ (⟨w.heap.size, 4, none⟩ : Addr) = some (.slice none 0 0) := cell_of_cells Hph.out.pt.res 4
      have r5 : World.cell? _ (⟨w.heap.size, 5, none⟩ : Addr) = some (.int .i64 0) := cell_of_cells Hph.out.pt.res 5
      have r6 : World.cell? _ (⟨w.heap.size, 6, none⟩ : Addr) = some (.int .i64 0) := cell_of_cells Hph.out.pt.res 6
      have r7 : World.cell? _ (⟨w.heap.size, 7, none⟩ : Addr) = some (.int .i64 0) := cell_of_cells Hph.out.pt.res 7
      have r8 : World.cell? _ (⟨w.heap.size, 8, none⟩ : Addr) = some (.bool false) := cell_of_cells Hph.out.pt.res 8
      have f0 := free_of_cells Hph.out.pt.res 0
      have f1 := free_of_cells Hph.out.pt.res 1
      have f2 := free_of_cells Hph.out.pt.res 2
      have f3 := free_of_cells Hph.out.pt.res 3
      have f4 := free_of_cells Hph.out.pt.res 4
      have f5 := free_of_cells Hph.out.pt.res 5
      have f6 := free_of_cells Hph.out.pt.res 6
      have f7 := free_of_cells Hph.out.pt.res 7
      have f8 := free_of_cells Hph.out.pt.res 8
      have rl := lt_of_block Hph.out.pt.res
      rcases hs2 with hs2 | hs2
      · go_wp2_with (go_at_call 34; refine (wShort_is Hph.out.pt.rd Hsd.out).mono ?_; rintro e w' ⟨rfl, rfl⟩)
        go_step3
        go_wp2
        refine jump2_1 ?_
        go_wp2
        go_step3
        go_wp2
        rw [Exit.noGoto_ret]
        exact bodyPost_ret (v := .tuple #[.agg #[.int .i64 0, .int .i64 0, .int .i64 0, .int .i64 0, .slice none 0 0, .int .i64 0, .int .i64 0, .int .i64 0, .bool false], .int .i64 4]) (by simp [results, Tryd.results14, go_sem, r0, r1, r2, r3, r4, r5, r6, r7, r8, rl]) rfl (TakePost.bad He.out (by decide) (keeps_set9 Hph.out.pt.kp _ (Nat.le_refl _) _ _ _ _ _ _ _ _ _))
      · have hs2' : ¬ z7 < 0 := by omega
        go_wp2_with (go_at_call 34; refine (wShort_is Hph.out.pt.rd Hsd.out).mono ?_; rintro e w' ⟨rfl, rfl⟩)
        go_step3
        go_wp2
        refine jump2_1 ?_
        go_wp2
        go_step3
        go_wp2
        rw [Exit.noGoto_ret]
        exact bodyPost_ret (v := .tuple #[.agg #[.int .i64 0, .int .i64 0, .int .i64 0, .int .i64 0, .slice none 0 0, .int .i64 0, .int .i64 0, .int .i64 0, .bool false], .int .i64 4]) (by simp [results, Tryd.results14, go_sem, r0, r1, r2, r3, r4, r5, r6, r7, r8, rl]) rfl (TakePost.bad He.out (by decide) (keeps_set9 Hph.out.pt.kp _ (Nat.le_refl _) _ _ _ _ _ _ _ _ _))
    · obtain ⟨z7a, z7b⟩ : 0 ≤ z7 ∧ z7 ≤ 1 := by omega
      have t8 := cell_of_cells Hph.out.blk 8
      have t8f := free_of_cells Hph.out.blk 8
      have t8l := lt_of_block Hph.out.blk
      go_wp2_with (go_at_call 34; refine (wShort_is Hph.out.pt.rd Hsd.out).mono ?_; rintro e w' ⟨rfl, rfl⟩)
      have Hpi : Hid (PS w (wh.setCell ⟨wg.heap.size, 8, none⟩ (.bool (z7 == 1))) B 8 wg.heap.size #[.int .i64 z0, .int .i64 z1, .int .i64 z2, .int .i64 z3, .slice none 0 0, .int .i64 z4, .int .i64 z5, .int .i64 z6, .bool (z7 == 1)] (.slice none 0 0) []) := Lib.hid (Hph.out.set 8 (.bool (z7 == 1)))
      clear t8 t8f t8l
      refine (wNum_at Hpi.out.pt.rd hBl HB.out Hz8.out).mono ?_
      rintro e wi ⟨rfl, hr, hk⟩
      have Hpj : Hid (PS w wi B 9 wg.heap.size _ _ []) := Lib.hid (Hpi.out.num hr hk)
      clear hr hk
      by_cases hs3 : B.length < 72
      · have he : takeErr B = 3 := by unfold takeErr; rw [if_neg (by omega), Hn7.out, if_neg (by omega), if_pos hs3]
        have hsd : decide (B.length < 8 * 9) = true := by simp; omega
        clear hs1 hs2 hs3
        have He := Lib.hid he; clear he; have Hsd := Lib.hid hsd; clear hsd
        have r0 : World.cell? _ (⟨w.heap.size, 0, none⟩ : Addr) = some (.int .i64 0) := cell_of_cells Hpj.out.pt.res 0
        have r1 : World.cell? _ (⟨w.heap.size, 1, none⟩ : Addr) = some (.int .i64 0) := cell_of_cells Hpj.out.pt.res 1
        have r2 : World.cell? _ (⟨w.heap.size, 2, none⟩ : Addr) = some (.int .i64 0) := cell_of_cells Hpj.out.pt.res 2
        have r3 : World.cell? _ (⟨w.heap.size, 3, none⟩ : Addr) = some (.int .i64 0) := cell_of_cells Hpj.out.pt.res 3
        have r4 : World.cell? _ (⟨w.heap.size, 4, none⟩ : Addr) = some (.slice none 0 0) := cell_of_cells Hpj.out.pt.res 4
        have r5 : World.cell? _ (⟨w.heap.size, 5, none⟩ : Addr) = some (.int .i64 0) := cell_of_cells Hpj.out.pt.res 5
        have r6 : World.cell? _ (⟨w.heap.size, 6, none⟩ : Addr) = some (.int .i64 0) := cell_of_cells Hpj.out.pt.res 6
        have r7 : World.cell? _ (⟨w.heap.size, 7, none⟩ : Addr) = some (.int .i64 0) := cell_of_cells Hpj.out.pt.res 7
        have r8 : World.cell? _ (⟨w.heap.size, 8, none⟩ : Addr) = some (.bool false) := cell_of_cells Hpj.out.pt.res 8
        have f0 := free_of_cells Hpj.out.pt.res 0
        have f1 := free_of_cells Hpj.out.pt.res 1
        have f2 := free_of_cells Hpj.out.pt.res 2
        have f3 := free_of_cells Hpj.out.pt.res 3
        have f4 := free_of_cells Hpj.out.pt.res 4
        have f5 := free_of_cells Hpj.out.pt.res 5
        have f6 := free_of_cells Hpj.out.pt.res 6
        have f7 := free_of_cells Hpj.out.pt.res 7
        have f8 := free_of_cells Hpj.out.pt.res 8
        have rl := lt_of_block Hpj.out.pt.res
        go_wp2_with (go_at_call 34; refine (wShort_is Hpj.out.pt.rd Hsd.out).mono ?_; rintro e w' ⟨rfl, rfl⟩)
        go_step3
        go_wp2
        refine jump2_2 ?_
        go_wp2
        rw [Exit.noGoto_ret]
        exact bodyPost_ret (v := .tuple #[.agg #[.int .i64 0, .int .i64 0, .int .i64 0, .int .i64 0, .slice none 0 0, .int .i64 0, .int .i64 0, .int .i64 0, .bool false], .int .i64 3]) (by simp [results, Tryd.results14, go_sem, r0, r1, r2, r3, r4, r5, r6, r7, r8, rl]) rfl (TakePost.bad He.out (by decide) (keeps_set9 Hpj.out.pt.kp _ (Nat.le_refl _) _ _ _ _ _ _ _ _ _))
      · have hn8 : numAt B 8 = z8 := by rw [← Hz8.out]; unfold numR; rw [if_pos (by omega)]
        have hsd : decide (B.length < 8 * 9) = false := by simp; omega
        have Hn8 := Lib.hid hn8; clear hn8; have Hsd := Lib.hid hsd; clear hsd
        by_cases hs4 : z8 < 1 ∨ 8 < z8
        · have he : takeErr B = 4 := by unfold takeErr; rw [if_neg hs1, Hn7.out, if_neg hs2, if_neg hs3, Hn8.out, if_pos hs4]
          clear hs1 hs2 hs3
          have He := Lib.hid he; clear he
          have r0 : World.cell? _ (⟨w.heap.size, 0, none⟩ : Addr) = some (.int .i64 0) := cell_of_cells Hpj.out.pt.res 0
          have r1 : World.cell? _ (⟨w.heap.size, 1, none⟩ : Addr) = some (.int .i64 0) := cell_of_cells Hpj.out.pt.res 1
          have r2 : World.cell? _ (⟨w.heap.size, 2, none⟩ : Addr) = some (.int .i64 0) := cell_of_cells Hpj.out.pt.res 2
          have r3 : World.cell? _ (⟨w.heap.size, 3, none⟩ : Addr) = some (.int .i64 0) := cell_of_cells Hpj.out.pt.res 3
          have r4 : World.cell? _ (⟨w.heap.size, 4, none⟩ : Addr) = some (.slice none 0 0) := cell_of_cells Hpj.out.pt.res 4
          have r5 : World.cell? _ (⟨w.heap.size, 5, none⟩ : Addr) = some (.int .i64 0) := cell_of_cells Hpj.out.pt.res 5
          have r6 : World.cell? _ (⟨w.heap.size, 6, none⟩ : Addr) = some (.int .i64 0) := cell_of_cells Hpj.out.pt.res 6
          have r7 : World.cell? _ (⟨w.heap.size, 7, none⟩ : Addr) = some (.int .i64 0) := cell_of_cells Hpj.out.pt.res 7
          have r8 : World.cell? _ (⟨w.heap.size, 8, none⟩ : Addr) = some (.bool false) := cell_of_cells Hpj.out.pt.res 8
          have f0 := free_of_cells Hpj.out.pt.res 0
          have f1 := free_of_cells Hpj.out.pt.res 1
          have f2 := free_of_cells Hpj.out.pt.res 2
          have f3 := free_of_cells Hpj.out.pt.res 3
          have f4 := free_of_cells Hpj.out.pt.res 4
          have f5 := free_of_cells Hpj.out.pt.res 5
          have f6 := free_of_cells Hpj.out.pt.res 6
          have f7 := free_of_cells Hpj.out.pt.res 7
          have f8 := free_of_cells Hpj.out.pt.res 8
          have rl := lt_of_block Hpj.out.pt.res
          rcases hs4 with hs4 | hs4
          · go_wp2_with (go_at_call 34; refine (wShort_is Hpj.out.pt.rd Hsd.out).mono ?_; rintro e w' ⟨rfl, rfl⟩)
            go_step3
            go_wp2
            refine jump2_1 ?_
            go_wp2
            go_step3
            go_wp2
            rw [Exit.noGoto_ret]
            exact bodyPost_ret (v := .tuple #[.agg #[.int .i64 0, .int .i64 0, .int .i64 0, .int .i64 0, .slice none 0 0, .int .i64 0, .int .i64 0, .int .i64 0, .bool false], .int .i64 4]) (by simp [results, Tryd.results14, go_sem, r0, r1, r2, r3, r4, r5, r6, r7, r8, rl]) rfl (TakePost.bad He.out (by decide) (keeps_set9 Hpj.out.pt.kp _ (Nat.le_refl _) _ _ _ _ _ _ _ _ _))
          · have hs4' : ¬ z8 < 1 := by omega
            go_wp2_with (go_at_call 34; refine (wShort_is Hpj.out.pt.rd Hsd.out).mono ?_; rintro e w' ⟨rfl, rfl⟩)
            go_step3
            go_wp2
            refine jump2_1 ?_
            go_wp2
            go_step3
            go_wp2
            rw [Exit.noGoto_ret]
            exact bodyPost_ret (v := .tuple #[.agg #[.int .i64 0, .int .i64 0, .int .i64 0, .int .i64 0, .slice none 0 0, .int .i64 0, .int .i64 0, .int .i64 0, .bool false], .int .i64 4]) (by simp [results, Tryd.results14, go_sem, r0, r1, r2, r3, r4, r5, r6, r7, r8, rl]) rfl (TakePost.bad He.out (by decide) (keeps_set9 Hpj.out.pt.kp _ (Nat.le_refl _) _ _ _ _ _ _ _ _ _))
        · obtain ⟨z8a, z8b⟩ : 1 ≤ z8 ∧ z8 ≤ 8 := by omega
          have hco : takeErr B = (if (B.length : Int) < 72 + 24 * z8 then 3 else if (B.length : Int) = 72 + 24 * z8 ∧ (stmAt B).rightB = true then 0 else 4) := by
            unfold takeErr; rw [if_neg hs1, Hn7.out, if_neg hs2, if_neg hs3, Hn8.out, if_neg hs4]
          have hs3' : 72 ≤ B.length := by omega
          clear hs1 hs2 hs3 hs4
          have Hco := Lib.hid hco; clear hco; have Hs3' := Lib.hid hs3'; clear hs3'
          go_wp2_with (go_at_call 34; refine (wShort_is Hpj.out.pt.rd Hsd.out).mono ?_; rintro e w' ⟨rfl, rfl⟩)
          go_loopw [51] (fun c wr => ∃ (k : Nat) (v : Value), (k : Int) ≤ z8 ∧ c = .int .i64 (k : Nat) ∧ PS w wr B (9 + 3 * k) wg.heap.size #[.int .i64 z0, .int .i64 z1, .int .i64 z2, .int .i64 z3, v, .int .i64 z4, .int .i64 z5, .int .i64 z6, .bool (z7 == 1)] v (lnsR B k)) (fun c _ => (z8 - intOf c).toNat)
          case atStart => exact ⟨0, _, by omega, rfl, Hpj.out⟩
          case round =>
            obtain ⟨k, v, hk8, rfl, hps⟩ := hrel
            have hsh := ownsRow_shape hps.row
            rw [lnsR_length] at hsh
            obtain ⟨adv, capv, rfl, hcv, _⟩ := hsh
            by_cases hkn : (k : Int) < z8
            · obtain ⟨y0, hy0⟩ : ∃ z, numR B (9 + 3 * k) = z := ⟨_, rfl⟩
              obtain ⟨y1, hy1⟩ : ∃ z, numR B (9 + 3 * k + 1) = z := ⟨_, rfl⟩
              obtain ⟨y2, hy2⟩ : ∃ z, numR B (9 + 3 * k + 1 + 1) = z := ⟨_, rfl⟩
              have hnx : lnsR B (k + 1) = lnsR B k ++ [⟨y0, y1, y2⟩] := by rw [lnsR, lnR, hy0, hy1, hy2]
              have t4 : wr.cell? ⟨wg.heap.size, 4, none⟩ = some (.slice adv k capv) := cell_of_cells hps.blk 4
              have tl := lt_of_block hps.blk
              have Hps := Lib.hid hps; clear hps; have Hy0 := Lib.hid hy0; clear hy0; have Hy1 := Lib.hid hy1; clear hy1; have Hy2 := Lib.hid hy2; clear hy2; have Hnx := Lib.hid hnx; clear hnx
              have Hsd := Lib.hid (Hps.out.keep (Keeps.drew (S := fun _ => False) wr) (by simp))
              go_wp2
              go_region_law (first
                | (refine step_append_row rfl (.tmp 54) (.tmp 62) 24 rfl 0 30 i0 _ 3 24 Tryd.underlying24 hi hi0 hi1 hi2 rfl (by decide) (.slice adv k capv) k _ rfl (Hrow.out.alloc _) _ 1 [.int .i64 y0, .int .i64 y1, .int .i64 y2] rfl (Reads.lit _ _ _ _ _ rfl) (by simp [Value.oneCell']) (by unfold maxLen; omega) (by omega) (by omega) ?_; intro v4 w4 ho4 hk4 hf4; obtain ⟨ad4, cap4, rfl, _, _⟩ := ownsRow_shape ho4; have hs4 := Hsz.out.app ⟨y0, y1, y2⟩ (by rw [lnsR_length]) rfl ho4 hk4 (by first | exact hf4 | simpa using hf4); have t4 : w4.cell? ⟨wg.heap.size, 4, none⟩ = some (.slice adv k capv) := cell_of_cells hs4.blk 4; have f4 := free_of_cells hs4.blk 4; have tl := lt_of_block hs4.blk; have Hs4 := Lib.hid hs4; clear hs4 ho4 hk4 hf4)
                | (go_simp; go_at_call 33; ((with_reducible refine (wNum_at Hsd.out.pt.rd hBl HB.out Hy0.out).mono ?_); rintro e wx ⟨rfl, hr, hk⟩; have hsx := Hsd.out.num hr hk; have t4 : wx.cell? ⟨wg.heap.size, 4, none⟩ = some (.slice adv k capv) := cell_of_cells hsx.blk 4; have tl := lt_of_block hsx.blk; have Hsx := Lib.hid hsx; clear hr hk hsx))
                | (go_simp; go_at_call 33; ((with_reducible refine (wNum_at Hsx.out.pt.rd hBl HB.out Hy1.out).mono ?_); rintro e wy ⟨rfl, hr, hk⟩; have hsy := Hsx.out.num hr hk; have t4 : wy.cell? ⟨wg.heap.size, 4, none⟩ = some (.slice adv k capv) := cell_of_cells hsy.blk 4; have tl := lt_of_block hsy.blk; have Hsy := Lib.hid hsy; clear hr hk hsy))
                | (go_simp; go_at_call 33; ((with_reducible refine (wNum_at Hsy.out.pt.rd hBl HB.out Hy2.out).mono ?_); rintro e wz ⟨rfl, hr, hk⟩; have hsz := Hsy.out.num hr hk; have t4 : wz.cell? ⟨wg.heap.size, 4, none⟩ = some (.slice adv k capv) := cell_of_cells hsz.blk 4; have tl := lt_of_block hsz.blk; have hrow := hsz.row; rw [lnsR_length] at hrow; have Hrow := Lib.hid hrow; have Hsz := Lib.hid hsz; clear hr hk hsz hrow)))
              all_goals
                go_wp2
                go_roundw
                case rel => exact ⟨k + 1, _, by omega, by go_num, by rw [Hnx.out]; exact Hs4.out.set 4 (.slice ad4 (k + 1) cap4)⟩
                case measure => simp [intOf]; omega
            · have hke : (k : Int) = z8 := by omega
              have hs3' := Hs3'.out
              have hn0 : numAt B 0 = z0 := by rw [← Hz0.out]; unfold numR; rw [if_pos (by omega)]
              have hn1 : numAt B 1 = z1 := by rw [← Hz1.out]; unfold numR; rw [if_pos (by omega)]
              have hn2 : numAt B 2 = z2 := by rw [← Hz2.out]; unfold numR; rw [if_pos (by omega)]
              have hn3 : numAt B 3 = z3 := by rw [← Hz3.out]; unfold numR; rw [if_pos (by omega)]
              have hn4 : numAt B 4 = z4 := by rw [← Hz4.out]; unfold numR; rw [if_pos (by omega)]
              have hn5 : numAt B 5 = z5 := by rw [← Hz5.out]; unfold numR; rw [if_pos (by omega)]
              have hn6 : numAt B 6 = z6 := by rw [← Hz6.out]; unfold numR; rw [if_pos (by omega)]
              have hco := Hco.out
              clear hs3'
              by_cases hsl : B.length < 72 + 24 * k
              · have he : takeErr B = 3 := by rw [hco, if_pos (by omega)]
                have hsd : decide (B.length < 8 * (9 + 3 * k)) = true := by simp; omega
                clear hsl hco hn0 hn1 hn2 hn3 hn4 hn5 hn6
                have He := Lib.hid he; clear he; have Hsd := Lib.hid hsd; clear hsd; have Hps := Lib.hid hps; clear hps
                have r0 : World.cell? _ (⟨w.heap.size, 0, none⟩ : Addr) = some (.int .i64 0) := cell_of_cells Hps.out.pt.res 0
                have r1 : World.cell? _ (⟨w.heap.size, 1, none⟩ : Addr) = some (.int .i64 0) := cell_of_cells Hps.out.pt.res 1
                have r2 : World.cell? _ (⟨w.heap.size, 2, none⟩ : Addr) = some (.int .i64 0) := cell_of_cells Hps.out.pt.res 2
                have r3 : World.cell? _ (⟨w.heap.size, 3, none⟩ : Addr) = some (.int .i64 0) := cell_of_cells Hps.out.pt.res 3
                have r4 : World.cell? _ (⟨w.heap.size, 4, none⟩ : Addr) = some (.slice none 0 0) := cell_of_cells Hps.out.pt.res 4
                have r5 : World.cell? _ (⟨w.heap.size, 5, none⟩ : Addr) = some (.int .i64 0) := cell_of_cells Hps.out.pt.res 5
                have r6 : World.cell? _ (⟨w.heap.size, 6, none⟩ : Addr) = some (.int .i64 0) := cell_of_cells Hps.out.pt.res 6
                have r7 : World.cell? _ (⟨w.heap.size, 7, none⟩ : Addr) = some (.int .i64 0) := cell_of_cells Hps.out.pt.res 7
                have r8 : World.cell? _ (⟨w.heap.size, 8, none⟩ : Addr) = some (.bool false) := cell_of_cells Hps.out.pt.res 8
                have f0 := free_of_cells Hps.out.pt.res 0
                have f1 := free_of_cells Hps.out.pt.res 1
                have f2 := free_of_cells Hps.out.pt.res 2
                have f3 := free_of_cells Hps.out.pt.res 3
                have f4 := free_of_cells Hps.out.pt.res 4
                have f5 := free_of_cells Hps.out.pt.res 5
                have f6 := free_of_cells Hps.out.pt.res 6
                have f7 := free_of_cells Hps.out.pt.res 7
                have f8 := free_of_cells Hps.out.pt.res 8
                have rl := lt_of_block Hps.out.pt.res
                go_wp2_with (go_at_call 34; refine (wShort_is Hps.out.pt.rd Hsd.out).mono ?_; rintro e w' ⟨rfl, rfl⟩)
                go_step3
                go_wp2
                refine jump2_2 ?_
                go_wp2
                rw [Exit.noGoto_ret]
                exact bodyPost_ret (v := .tuple #[.agg #[.int .i64 0, .int .i64 0, .int .i64 0, .int .i64 0, .slice none 0 0, .int .i64 0, .int .i64 0, .int .i64 0, .bool false], .int .i64 3]) (by simp [results, Tryd.results14, go_sem, r0, r1, r2, r3, r4, r5, r6, r7, r8, rl]) rfl (TakePost.bad He.out (by decide) (keeps_set9 Hps.out.pt.kp _ (Nat.le_refl _) _ _ _ _ _ _ _ _ _))
              · have hsd : decide (B.length < 8 * (9 + 3 * k)) = false := by simp; omega
                have hstm : stmAt B = ⟨z0, z1, z2, z3, z4, z5, z6, z7 == 1, lnsR B k⟩ := by
                  unfold stmAt
                  rw [hn0, hn1, hn2, hn3, hn4, hn5, hn6, Hn7.out, Hn8.out, ← hke, show (k : Int).toNat = k by omega, lnsR_eq k (by omega)]
                obtain ⟨s, hs⟩ : ∃ s, s = (⟨z0, z1, z2, z3, z4, z5, z6, z7 == 1, lnsR B k⟩ : Stm) := ⟨_, rfl⟩
                have hv : s.val (.slice adv k capv) = .agg #[.int .i64 z0, .int .i64 z1, .int .i64 z2, .int .i64 z3, .slice adv k capv, .int .i64 z4, .int .i64 z5, .int .i64 z6, .bool (z7 == 1)] := by rw [hs]; rfl
                have hsl' : s.lines = lnsR B k := by rw [hs]
                rw [← hs] at hstm
                have hright : ∀ W, Keeps (fun _ => False) wr W → Calls Tryd.prog 9 #[.agg #[.int .i64 z0, .int .i64 z1, .int .i64 z2, .int .i64 z3, .slice adv k capv, .int .i64 z4, .int .i64 z5, .int .i64 z6, .bool (z7 == 1)]] W fun e w' => e = .returned (.bool s.rightB) ∧ Keeps (fun _ => False) W w' := fun W hW => by
                  rw [← hv]
                  have hll : s.lines.length = k := by rw [hsl', lnsR_length]
                  have := pageRight_any s adv capv W (by rw [hll, hsl']; have := (Reads.of_owns hps.row).keeps hW (by simp); rw [lnsR_length] at this; exact this) (by omega)
                  rw [hll] at this; exact this
                have heq : takeErr B = if (B.length : Int) = 72 + 24 * z8 ∧ s.rightB = true then 0 else 4 := by rw [hco, if_neg (by omega), hstm]
                obtain ⟨m, hm⟩ : ∃ m, B.length - 8 * (9 + 3 * k) = m := ⟨_, rfl⟩
                have hleft := wLeft_at hps.pt.rd (by omega)
                rw [hm] at hleft
                have u0 : wr.cell? ⟨wg.heap.size, 0, none⟩ = some (.int .i64 z0) := cell_of_cells hps.blk 0
                have u1 : wr.cell? ⟨wg.heap.size, 1, none⟩ = some (.int .i64 z1) := cell_of_cells hps.blk 1
                have u2 : wr.cell? ⟨wg.heap.size, 2, none⟩ = some (.int .i64 z2) := cell_of_cells hps.blk 2
                have u3 : wr.cell? ⟨wg.heap.size, 3, none⟩ = some (.int .i64 z3) := cell_of_cells hps.blk 3
                have u4 : wr.cell? ⟨wg.heap.size, 4, none⟩ = some (.slice adv k capv) := cell_of_cells hps.blk 4
                have u5 : wr.cell? ⟨wg.heap.size, 5, none⟩ = some (.int .i64 z4) := cell_of_cells hps.blk 5
                have u6 : wr.cell? ⟨wg.heap.size, 6, none⟩ = some (.int .i64 z5) := cell_of_cells hps.blk 6
                have u7 : wr.cell? ⟨wg.heap.size, 7, none⟩ = some (.int .i64 z6) := cell_of_cells hps.blk 7
                have u8 : wr.cell? ⟨wg.heap.size, 8, none⟩ = some (.bool (z7 == 1)) := cell_of_cells hps.blk 8
                have hrt := hright wr (Keeps.refl _ _)
                clear hright hn0 hn1 hn2 hn3 hn4 hn5 hn6 hco
                by_cases hm0 : m = 0
                · subst hm0
                  rcases hrb : s.rightB with _ | _
                  · have he : takeErr B = 4 := by rw [heq, if_neg (by rw [hrb]; simp)]
                    rw [hrb] at hrt
                    clear heq hm hsl hke
                    have He := Lib.hid he; clear he; have Hsd := Lib.hid hsd; clear hsd; have Hps := Lib.hid hps; clear hps; have Hleft := Lib.hid hleft; clear hleft; have Hrt := Lib.hid hrt; clear hrt; have Hv := Lib.hid hv; clear hv; have Hsl' := Lib.hid hsl'; clear hsl'; have Hstm := Lib.hid hstm; clear hstm; have Hs := Lib.hid hs; clear hs
                    go_wp2_with (first
                      | (go_at_call 34; refine (wShort_is Hps.out.pt.rd Hsd.out).mono ?_; rintro e w' ⟨rfl, rfl⟩)
                      | (go_at_call 35; refine Hleft.out.mono ?_; rintro e w' ⟨rfl, rfl⟩)
                      | (go_at_call 9; refine Hrt.out.mono ?_; rintro e w9 ⟨rfl, hk9⟩; have Hp9 := Lib.hid (Hps.out.keep hk9 (by simp)); clear hk9))
                    have r0 : World.cell? _ (⟨w.heap.size, 0, none⟩ : Addr) = some (.int .i64 0) := cell_of_cells Hp9.out.pt.res 0
                    have r1 : World.cell? _ (⟨w.heap.size, 1, none⟩ : Addr) = some (.int .i64 0) := cell_of_cells Hp9.out.pt.res 1
                    have r2 : World.cell? _ (⟨w.heap.size, 2, none⟩ : Addr) = some (.int .i64 0) := cell_of_cells Hp9.out.pt.res 2
                    have r3 : World.cell? _ (⟨w.heap.size, 3, none⟩ : Addr) = some (.int .i64 0) := cell_of_cells Hp9.out.pt.res 3
                    have r4 : World.cell? _ (⟨w.heap.size, 4, none⟩ : Addr) = some (.slice none 0 0) := cell_of_cells Hp9.out.pt.res 4
                    have r5 : World.cell? _ (⟨w.heap.size, 5, none⟩ : Addr) = some (.int .i64 0) := cell_of_cells Hp9.out.pt.res 5
                    have r6 : World.cell? _ (⟨w.heap.size, 6, none⟩ : Addr) = some (.int .i64 0) := cell_of_cells Hp9.out.pt.res 6
                    have r7 : World.cell? _ (⟨w.heap.size, 7, none⟩ : Addr) = some (.int .i64 0) := cell_of_cells Hp9.out.pt.res 7
                    have r8 : World.cell? _ (⟨w.heap.size, 8, none⟩ : Addr) = some (.bool false) := cell_of_cells Hp9.out.pt.res 8
                    have f0 := free_of_cells Hp9.out.pt.res 0
                    have f1 := free_of_cells Hp9.out.pt.res 1
                    have f2 := free_of_cells Hp9.out.pt.res 2
                    have f3 := free_of_cells Hp9.out.pt.res 3
                    have f4 := free_of_cells Hp9.out.pt.res 4
                    have f5 := free_of_cells Hp9.out.pt.res 5
                    have f6 := free_of_cells Hp9.out.pt.res 6
                    have f7 := free_of_cells Hp9.out.pt.res 7
                    have f8 := free_of_cells Hp9.out.pt.res 8
                    have rl := lt_of_block Hp9.out.pt.res
                    go_step3
                    go_wp2
                    go_step3
                    go_wp2
                    refine jump2_ret ?_
                    exact bodyPost_ret (v := .tuple #[.agg #[.int .i64 0, .int .i64 0, .int .i64 0, .int .i64 0, .slice none 0 0, .int .i64 0, .int .i64 0, .int .i64 0, .bool false], .int .i64 4]) (by simp [results, Tryd.results14, go_sem, r0, r1, r2, r3, r4, r5, r6, r7, r8, rl]) rfl (TakePost.bad He.out (by decide) (keeps_set9 Hp9.out.pt.kp _ (Nat.le_refl _) _ _ _ _ _ _ _ _ _))
                  · have he : takeErr B = 0 := by rw [heq, if_pos ⟨by omega, hrb⟩]
                    rw [hrb] at hrt
                    have hts : takeStm B = s := by rw [takeStm, if_pos he, hstm]
                    clear heq hm hsl hke
                    have He := Lib.hid he; clear he; have Hsd := Lib.hid hsd; clear hsd; have Hps := Lib.hid hps; clear hps; have Hleft := Lib.hid hleft; clear hleft; have Hrt := Lib.hid hrt; clear hrt; have Hv := Lib.hid hv; clear hv; have Hsl' := Lib.hid hsl'; clear hsl'; have Hstm := Lib.hid hstm; clear hstm; have Hs := Lib.hid hs; clear hs; have Hts := Lib.hid hts; clear hts
                    go_wp2_with fail
                    refine (wShort_is Hps.out.pt.rd Hsd.out).mono ?_
                    rintro e w' ⟨rfl, rfl⟩
                    go_wp2_with fail
                    refine Hleft.out.mono ?_
                    rintro e w' ⟨rfl, rfl⟩
                    go_wp2_with fail
                    refine Hrt.out.mono ?_
                    rintro e w9 ⟨rfl, hk9⟩
                    have Hp9 := Lib.hid (Hps.out.keep hk9 (by simp))
                    clear hk9 u0 u1 u2 u3 u4 u5 u6 u7 u8
                    have u0 : w9.cell? ⟨wg.heap.size, 0, none⟩ = some (.int .i64 z0) := cell_of_cells Hp9.out.blk 0
                    have u1 : w9.cell? ⟨wg.heap.size, 1, none⟩ = some (.int .i64 z1) := cell_of_cells Hp9.out.blk 1
                    have u2 : w9.cell? ⟨wg.heap.size, 2, none⟩ = some (.int .i64 z2) := cell_of_cells Hp9.out.blk 2
                    have u3 : w9.cell? ⟨wg.heap.size, 3, none⟩ = some (.int .i64 z3) := cell_of_cells Hp9.out.blk 3
                    have u4 : w9.cell? ⟨wg.heap.size, 4, none⟩ = some (.slice adv k capv) := cell_of_cells Hp9.out.blk 4
                    have u5 : w9.cell? ⟨wg.heap.size, 5, none⟩ = some (.int .i64 z4) := cell_of_cells Hp9.out.blk 5
                    have u6 : w9.cell? ⟨wg.heap.size, 6, none⟩ = some (.int .i64 z5) := cell_of_cells Hp9.out.blk 6
                    have u7 : w9.cell? ⟨wg.heap.size, 7, none⟩ = some (.int .i64 z6) := cell_of_cells Hp9.out.blk 7
                    have u8 : w9.cell? ⟨wg.heap.size, 8, none⟩ = some (.bool (z7 == 1)) := cell_of_cells Hp9.out.blk 8
                    have r0 : World.cell? _ (⟨w.heap.size, 0, none⟩ : Addr) = some (.int .i64 0) := cell_of_cells Hp9.out.pt.res 0
                    have r1 : World.cell? _ (⟨w.heap.size, 1, none⟩ : Addr) = some (.int .i64 0) := cell_of_cells Hp9.out.pt.res 1
                    have r2 : World.cell? _ (⟨w.heap.size, 2, none⟩ : Addr) = some (.int .i64 0) := cell_of_cells Hp9.out.pt.res 2
                    have r3 : World.cell? _ (⟨w.heap.size, 3, none⟩ : Addr) = some (.int .i64 0) := cell_of_cells Hp9.out.pt.res 3
                    have r4 : World.cell? _ (⟨w.heap.size, 4, none⟩ : Addr) = some (.slice none 0 0) := cell_of_cells Hp9.out.pt.res 4
                    have r5 : World.cell? _ (⟨w.heap.size, 5, none⟩ : Addr) = some (.int .i64 0) := cell_of_cells Hp9.out.pt.res 5
                    have r6 : World.cell? _ (⟨w.heap.size, 6, none⟩ : Addr) = some (.int .i64 0) := cell_of_cells Hp9.out.pt.res 6
                    have r7 : World.cell? _ (⟨w.heap.size, 7, none⟩ : Addr) = some (.int .i64 0) := cell_of_cells Hp9.out.pt.res 7
                    have r8 : World.cell? _ (⟨w.heap.size, 8, none⟩ : Addr) = some (.bool false) := cell_of_cells Hp9.out.pt.res 8
                    have f0 := free_of_cells Hp9.out.pt.res 0
                    have f1 := free_of_cells Hp9.out.pt.res 1
                    have f2 := free_of_cells Hp9.out.pt.res 2
                    have f3 := free_of_cells Hp9.out.pt.res 3
                    have f4 := free_of_cells Hp9.out.pt.res 4
                    have f5 := free_of_cells Hp9.out.pt.res 5
                    have f6 := free_of_cells Hp9.out.pt.res 6
                    have f7 := free_of_cells Hp9.out.pt.res 7
                    have f8 := free_of_cells Hp9.out.pt.res 8
                    have rl := lt_of_block Hp9.out.pt.res
                    go_wp2
                    refine jump2_ret ?_
                    have hend : ∀ x0 x1 x2 x3 x4 x5 x6 x7 x8 : Value, let W := (((((((((w9.setCell ⟨w.heap.size, 0, none⟩ x0).setCell ⟨w.heap.size, 1, none⟩ x1).setCell ⟨w.heap.size, 2, none⟩ x2).setCell ⟨w.heap.size, 3, none⟩ x3).setCell ⟨w.heap.size, 4, none⟩ x4).setCell ⟨w.heap.size, 5, none⟩ x5).setCell ⟨w.heap.size, 6, none⟩ x6).setCell ⟨w.heap.size, 7, none⟩ x7).setCell ⟨w.heap.size, 8, none⟩ x8)
                        TakePost B w (.returned (.tuple #[.agg #[.int .i64 z0, .int .i64 z1, .int .i64 z2, .int .i64 z3, .slice adv k capv, .int .i64 z4, .int .i64 z5, .int .i64 z6, .bool (z7 == 1)], .int .i64 0])) W := by
                      intro x0 x1 x2 x3 x4 x5 x6 x7 x8 W
                      have hkW : Keeps (fun j => j = w.heap.size) w9 W :=
                        ((((((((Keeps.setCell (S := fun j => j = w.heap.size) w9 ⟨w.heap.size, 0, none⟩ x0 rfl).trans (Keeps.setCell _ _ _ (.inl rfl))).trans (Keeps.setCell _ _ _ (.inl rfl))).trans (Keeps.setCell _ _ _ (.inl rfl))).trans (Keeps.setCell _ _ _ (.inl rfl))).trans (Keeps.setCell _ _ _ (.inl rfl))).trans (Keeps.setCell _ _ _ (.inl rfl))).trans (Keeps.setCell _ _ _ (.inl rfl))).trans (Keeps.setCell _ _ _ (.inl rfl))
                      refine ⟨.slice adv k capv, by rw [Hts.out, He.out, Hv.out], ?_, fun g hg => by have := Hp9.out.nw g hg; omega, Hp9.out.pt.kp.trans (hkW.mono fun j _ hj => by right; omega)⟩
                      rw [Hts.out, Hsl'.out]
                      exact hkW.row Hp9.out.row (fun g hg e => by have := Hp9.out.nw g hg; omega)
                    have Hend := Lib.hid hend
                    clear hend
                    exact bodyPost_ret (v := .tuple #[.agg #[.int .i64 z0, .int .i64 z1, .int .i64 z2, .int .i64 z3, .slice adv k capv, .int .i64 z4, .int .i64 z5, .int .i64 z6, .bool (z7 == 1)], .int .i64 0]) (by simp [results, Tryd.results14, go_sem, r0, r1, r2, r3, r4, r5, r6, r7, r8, rl]) rfl (Hend.out _ _ _ _ _ _ _ _ _)
                · have he : takeErr B = 4 := by rw [heq, if_neg (by omega)]
                  have hm1 : (0 : Int) < (m : Int) := by omega
                  clear heq hm hsl hke hm0
                  have He := Lib.hid he; clear he; have Hsd := Lib.hid hsd; clear hsd; have Hps := Lib.hid hps; clear hps; have Hleft := Lib.hid hleft; clear hleft; have Hrt := Lib.hid hrt; clear hrt; have Hv := Lib.hid hv; clear hv; have Hsl' := Lib.hid hsl'; clear hsl'; have Hstm := Lib.hid hstm; clear hstm; have Hs := Lib.hid hs; clear hs
                  go_wp2_with (first
                    | (go_at_call 34; refine (wShort_is Hps.out.pt.rd Hsd.out).mono ?_; rintro e w' ⟨rfl, rfl⟩)
                    | (go_at_call 35; refine Hleft.out.mono ?_; rintro e w' ⟨rfl, rfl⟩))
                  have r0 : World.cell? _ (⟨w.heap.size, 0, none⟩ : Addr) = some (.int .i64 0) := cell_of_cells Hps.out.pt.res 0
                  have r1 : World.cell? _ (⟨w.heap.size, 1, none⟩ : Addr) = some (.int .i64 0) := cell_of_cells Hps.out.pt.res 1
                  have r2 : World.cell? _ (⟨w.heap.size, 2, none⟩ : Addr) = some (.int .i64 0) := cell_of_cells Hps.out.pt.res 2
                  have r3 : World.cell? _ (⟨w.heap.size, 3, none⟩ : Addr) = some (.int .i64 0) := cell_of_cells Hps.out.pt.res 3
                  have r4 : World.cell? _ (⟨w.heap.size, 4, none⟩ : Addr) = some (.slice none 0 0) := cell_of_cells Hps.out.pt.res 4
                  have r5 : World.cell? _ (⟨w.heap.size, 5, none⟩ : Addr) = some (.int .i64 0) := cell_of_cells Hps.out.pt.res 5
                  have r6 : World.cell? _ (⟨w.heap.size, 6, none⟩ : Addr) = some (.int .i64 0) := cell_of_cells Hps.out.pt.res 6
                  have r7 : World.cell? _ (⟨w.heap.size, 7, none⟩ : Addr) = some (.int .i64 0) := cell_of_cells Hps.out.pt.res 7
                  have r8 : World.cell? _ (⟨w.heap.size, 8, none⟩ : Addr) = some (.bool false) := cell_of_cells Hps.out.pt.res 8
                  have f0 := free_of_cells Hps.out.pt.res 0
                  have f1 := free_of_cells Hps.out.pt.res 1
                  have f2 := free_of_cells Hps.out.pt.res 2
                  have f3 := free_of_cells Hps.out.pt.res 3
                  have f4 := free_of_cells Hps.out.pt.res 4
                  have f5 := free_of_cells Hps.out.pt.res 5
                  have f6 := free_of_cells Hps.out.pt.res 6
                  have f7 := free_of_cells Hps.out.pt.res 7
                  have f8 := free_of_cells Hps.out.pt.res 8
                  have rl := lt_of_block Hps.out.pt.res
                  go_step3
                  go_wp2
                  go_step3
                  go_wp2
                  refine jump2_ret ?_
                  exact bodyPost_ret (v := .tuple #[.agg #[.int .i64 0, .int .i64 0, .int .i64 0, .int .i64 0, .slice none 0 0, .int .i64 0, .int .i64 0, .int .i64 0, .bool false], .int .i64 4]) (by simp [results, Tryd.results14, go_sem, r0, r1, r2, r3, r4, r5, r6, r7, r8, rl]) rfl (TakePost.bad He.out (by decide) (keeps_set9 Hps.out.pt.kp _ (Nat.le_refl _) _ _ _ _ _ _ _ _ _))
end Go.Proofs.YthokcmbgamanbaaDoor
