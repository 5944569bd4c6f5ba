/- PagePacks: which statements are right, their bytes, their text, and which statement any bytes are; what is handed in stays. -/
import Derived.Test.YthokcmbgamanbaaDoorTxt3
import Derived.Test.YthokcmbgamanbaaDoorOwnLn
import Derived.Test.YthokcmbgamanbaaDoorKeptB
import Derived.Test.YthokcmbgamanbaaDoorPage13
namespace Go.Proofs.YthokcmbgamanbaaDoor
open Go.RowKit
set_option maxRecDepth 100000 in
set_option maxHeartbeats 800000 in
theorem pagePacks_awake (s : Stm) (w : World) (ad : Option Addr) (cap : Nat) (adb : Option Addr) (capb nb : Nat) (h : 30 < s.lines.length ∨ 800 < nb) :
    Calls Tryd.prog 5 #[.agg #[.int .i64 s.cycle, .int .i64 s.fr, .int .i64 s.te, .int .i64 s.due, .slice ad s.lines.length cap, .int .i64 s.total, .int .i64 s.credit, .int .i64 s.min, .bool s.grace], .slice adb nb capb] w fun e w' => e = .returned (.bool true) ∧ Below w.heap.size w w' := by
  obtain ⟨n, hn⟩ : ∃ n, s.lines.length = n := ⟨_, rfl⟩
  rw [hn] at h ⊢
  rcases (show 30 < n ∨ (¬ 30 < n ∧ 800 < nb) by omega) with h | ⟨h, h'⟩
  all_goals
    go_enter Tryd.func5, Tryd.ntmps5
    go_wp2_with (go_at_call 8; refine (awake20_any _).mono ?_; rintro e w1 ⟨rfl, hk⟩; have Hk := Lib.hid hk; clear hk)
    go_ret
    exact ⟨rfl, Keeps.below (S := fun _ => False) ((Keeps.alloc _ _).none_trans Hk.out) (by simp) (Nat.le_refl _)⟩
/-- A statement in its box. -/
def stB (b : Nat) (s : Stm) (v : Value) (W : World) : Prop := W.heap[b]? = some (.cells #[.int .i64 s.cycle, .int .i64 s.fr, .int .i64 s.te, .int .i64 s.due, v, .int .i64 s.total, .int .i64 s.credit, .int .i64 s.min, .bool s.grace] 26 (0, 0))
theorem stB.keep {b : Nat} {s : Stm} {v : Value} {W W' : World} (h : stB b s v W) (hk : Keeps (fun _ => False) W W') : stB b s v W' := box_old h hk (by simp)
def stC (b : Nat) (s : Stm) (v : Value) (W : World) : Prop := W.cell? ⟨b, 0, none⟩ = some (.int .i64 s.cycle) ∧ W.cell? ⟨b, 1, none⟩ = some (.int .i64 s.fr) ∧ W.cell? ⟨b, 2, none⟩ = some (.int .i64 s.te) ∧ W.cell? ⟨b, 3, none⟩ = some (.int .i64 s.due) ∧ W.cell? ⟨b, 4, none⟩ = some v ∧ W.cell? ⟨b, 5, none⟩ = some (.int .i64 s.total) ∧ W.cell? ⟨b, 6, none⟩ = some (.int .i64 s.credit) ∧ W.cell? ⟨b, 7, none⟩ = some (.int .i64 s.min) ∧ W.cell? ⟨b, 8, none⟩ = some (.bool s.grace)
theorem stB.c {b : Nat} {s : Stm} {v : Value} {W : World} (h : stB b s v W) : stC b s v W :=
  ⟨cell_of_cells h 0, cell_of_cells h 1, cell_of_cells h 2, cell_of_cells h 3, cell_of_cells h 4, cell_of_cells h 5, cell_of_cells h 6, cell_of_cells h 7, cell_of_cells h 8⟩
def pkB (b2 b5 b11 b13 : Nat) (s u : Stm) (v2 v5 v11 v13 : Value) (W : World) : Prop := stB b2 s v2 W ∧ stB b5 s v5 W ∧ stB b11 u v11 W ∧ stB b13 u v13 W
def pkS (b2 b5 b11 b13 : Nat) (s u : Stm) (v2 v5 v11 v13 : Value) (W : World) : Prop := stC b2 s v2 W ∧ stC b5 s v5 W ∧ stC b11 u v11 W ∧ stC b13 u v13 W
theorem pkB.keep {b2 b5 b11 b13 : Nat} {s u : Stm} {v2 v5 v11 v13 : Value} {W W' : World} (h : pkB b2 b5 b11 b13 s u v2 v5 v11 v13 W) (hk : Keeps (fun _ => False) W W') : pkB b2 b5 b11 b13 s u v2 v5 v11 v13 W' := ⟨h.1.keep hk, h.2.1.keep hk, h.2.2.1.keep hk, h.2.2.2.keep hk⟩
theorem pkB.c {b2 b5 b11 b13 : Nat} {s u : Stm} {v2 v5 v11 v13 : Value} {W : World} (h : pkB b2 b5 b11 b13 s u v2 v5 v11 v13 W) : pkS b2 b5 b11 b13 s u v2 v5 v11 v13 W := ⟨h.1.c, h.2.1.c, h.2.2.1.c, h.2.2.2.c⟩
theorem pageRight_at {w : World} {s : Stm} {v : Value} (hr : Reads w 3 v s.lines.length (s.lines.flatMap Ln.cells)) (hl : s.lines.length ≤ 1000000) :
    Calls Tryd.prog 9 #[.agg #[.int .i64 s.cycle, .int .i64 s.fr, .int .i64 s.te, .int .i64 s.due, v, .int .i64 s.total, .int .i64 s.credit, .int .i64 s.min, .bool s.grace]] w fun e w' => e = .returned (.bool s.rightB) ∧ Keeps (fun _ => False) w w' := by
  have hr0 := hr
  obtain ⟨ad, c, rfl, _, _⟩ := hr0
  exact pageRight_any s ad c w hr hl
theorem rpageRight_at' {w : World} {s : Stm} {v : Value} (hr : Reads w 3 v s.lines.length (s.lines.flatMap Ln.cells)) (hl : s.lines.length ≤ 1000000) :
    Calls Tryd.prog 16 #[.agg #[.int .i64 s.cycle, .int .i64 s.fr, .int .i64 s.te, .int .i64 s.due, v, .int .i64 s.total, .int .i64 s.credit, .int .i64 s.min, .bool s.grace]] w fun e w' => e = .returned (.bool s.rightB) ∧ Keeps (fun _ => False) w w' := by
  have hr0 := hr
  obtain ⟨ad, c, rfl, _, _⟩ := hr0
  exact rpageRight_any s ad c w hr hl
theorem pageText_at {w : World} {s : Stm} {v : Value} (hr : Reads w 3 v s.lines.length (s.lines.flatMap Ln.cells)) (hl : s.lines.length ≤ 1000000) (ht : Tab w) :
    Calls Tryd.prog 10 #[.agg #[.int .i64 s.cycle, .int .i64 s.fr, .int .i64 s.te, .int .i64 s.due, v, .int .i64 s.total, .int .i64 s.credit, .int .i64 s.min, .bool s.grace]] w fun e w' => e = .returned (.string (tx (stmT s))) ∧ Keeps (fun _ => False) w w' := by
  have hr0 := hr
  obtain ⟨ad, c, rfl, _, _⟩ := hr0
  rcases hw : s.rightB with _ | _
  · exact pageText_wrong s ad c w hr hl hw
  · exact pageText_ok s ad c _ w rfl hr hw ht
theorem rpageText_at {w : World} {s : Stm} {v : Value} (hr : Reads w 3 v s.lines.length (s.lines.flatMap Ln.cells)) (hl : s.lines.length ≤ 1000000) :
    Calls Tryd.prog 19 #[.agg #[.int .i64 s.cycle, .int .i64 s.fr, .int .i64 s.te, .int .i64 s.due, v, .int .i64 s.total, .int .i64 s.credit, .int .i64 s.min, .bool s.grace]] w fun e w' => e = .returned (.string (tx (stmT s))) ∧ Keeps (fun _ => False) w w' := by
  have hr0 := hr
  obtain ⟨ad, c, rfl, _, _⟩ := hr0
  rcases hw : s.rightB with _ | _
  · exact rpageText_wrong s ad c w hr hl hw
  · exact rpageText_ok s ad c _ w rfl hr hw
set_option maxRecDepth 100000 in
set_option maxHeartbeats 6400000 in
theorem pagePacks_walk (w : World) (s : Stm) (ad : Option Addr) (cap : Nat) (hr : Reads w 3 (.slice ad s.lines.length cap) s.lines.length (s.lines.flatMap Ln.cells)) (hm : s.lines.length ≤ maxLen)
    (adb : Option Addr) (capb : Nat) (B : List Int) (hrb : Reads w 1 (.slice adb B.length capb) B.length (B.flatMap fun z => [Value.int .u8 z])) (hpb : ∀ a ∈ B, (Lit.int .u8 a).wf = true) (hmb : B.length ≤ maxLen) (ht : Tab w) :
    Calls Tryd.prog 5 #[.agg #[.int .i64 s.cycle, .int .i64 s.fr, .int .i64 s.te, .int .i64 s.due, .slice ad s.lines.length cap, .int .i64 s.total, .int .i64 s.credit, .int .i64 s.min, .bool s.grace], .slice adb B.length capb] w fun e w' => e = .returned (.bool true) ∧ Below w.heap.size w w' := by
  by_cases hg : 30 < s.lines.length ∨ 800 < B.length
  · exact pagePacks_awake s w ad cap adb capb B.length hg
  have hl30 : s.lines.length ≤ 30 := by omega
  have hB8 : B.length ≤ 800 := by omega
  have hB : ∀ z ∈ B, 0 ≤ z ∧ z ≤ 255 := fun z hz => wf_u8 (hpb z hz)
  have hrb' : Reads w 1 (.slice adb B.length capb) B.length (B.flatMap u8c) := hrb
  clear hm hmb hg hrb hpb
  obtain ⟨X, hX⟩ : ∃ X, packB s = X := ⟨_, rfl⟩
  obtain ⟨n, hn⟩ : ∃ n, X.length = n := ⟨_, rfl⟩
  obtain ⟨pe, hpe⟩ : ∃ x, packErr s = x := ⟨_, rfl⟩
  obtain ⟨u, hu⟩ : ∃ u, takeStm B = u := ⟨_, rfl⟩
  obtain ⟨te, hte⟩ : ∃ x, takeErr B = x := ⟨_, rfl⟩
  have hul := takeStm_len hB
  rw [hu] at hul
  obtain ⟨k, hk⟩ : ∃ k, s.lines.length = k := ⟨_, rfl⟩
  obtain ⟨m, hm⟩ : ∃ m, B.length = m := ⟨_, rfl⟩
  rw [hk] at hr hl30 ⊢
  rw [hm] at hrb' hB8 ⊢
  have hb0 : stB w.heap.size s (.slice ad k cap) (w.alloc (.cells #[.int .i64 s.cycle, .int .i64 s.fr, .int .i64 s.te, .int .i64 s.due, .slice ad k cap, .int .i64 s.total, .int .i64 s.credit, .int .i64 s.min, .bool s.grace] 26)) := heap_alloc_new w _
  have hb1 : stB (w.heap.size + 1) s (.slice ad k cap) ((w.alloc (.cells #[.int .i64 s.cycle, .int .i64 s.fr, .int .i64 s.te, .int .i64 s.due, .slice ad k cap, .int .i64 s.total, .int .i64 s.credit, .int .i64 s.min, .bool s.grace] 26)).alloc (.cells #[.int .i64 s.cycle, .int .i64 s.fr, .int .i64 s.te, .int .i64 s.due, .slice ad k cap, .int .i64 s.total, .int .i64 s.credit, .int .i64 s.min, .bool s.grace] 26)) := halloc_at2 _ _ (by simp)
  have hk1 : Keeps (fun _ => False) w ((w.alloc (.cells #[.int .i64 s.cycle, .int .i64 s.fr, .int .i64 s.te, .int .i64 s.due, .slice ad k cap, .int .i64 s.total, .int .i64 s.credit, .int .i64 s.min, .bool s.grace] 26)).alloc (.cells #[.int .i64 s.cycle, .int .i64 s.fr, .int .i64 s.te, .int .i64 s.due, .slice ad k cap, .int .i64 s.total, .int .i64 s.credit, .int .i64 s.min, .bool s.grace] 26)) := (Keeps.alloc _ _).nt (Keeps.alloc _ _)
  have hb01 := hb0.keep (Keeps.alloc _ (.cells #[.int .i64 s.cycle, .int .i64 s.fr, .int .i64 s.te, .int .i64 s.due, .slice ad k cap, .int .i64 s.total, .int .i64 s.credit, .int .i64 s.min, .bool s.grace] 26))
  have how := fun W (h1 : Keeps (fun _ => False) w W) => ownLn_any W ad cap s.lines ⟨71, 0, 0⟩ (by rw [hk]; exact hr.keeps h1 (by simp)) (by omega)
  rw [hk] at how
  simp only [Ln.agg] at how
  have Hr := Lib.hid hr; clear hr; have Hrb' := Lib.hid hrb'; clear hrb'; have HB := Lib.hid hB; clear hB; have HX := Lib.hid hX; clear hX; have Hn := Lib.hid hn; clear hn; have Hpe := Lib.hid hpe; clear hpe; have Hu := Lib.hid hu; clear hu; have Hte := Lib.hid hte; clear hte; have Hk := Lib.hid hk; clear hk; have Hm := Lib.hid hm; clear hm; have Hb0 := Lib.hid hb0; clear hb0; have Hb1 := Lib.hid hb1; clear hb1; have Hk1 := Lib.hid hk1; clear hk1; have Hb01 := Lib.hid hb01; clear hb01; have How := Lib.hid how; clear how
  go_enter Tryd.func5, Tryd.ntmps5
  go_wp2_with fail
  refine (How.out _ Hk1.out).mono ?_
  rintro e w1 ⟨rfl, hown, hk2⟩
  have hb2 := Hb01.out.keep hk2
  have hb5 := Hb1.out.keep hk2
  have hk02 := Hk1.out.nt hk2
  simp only [World.size_alloc] at hown
  obtain ⟨p0, p1, p2, p3, p4, p5, p6, p7, p8⟩ := hb5.c
  have pl := lt_of_block hb5
  have pf := free_of_cells hb5 4
  have hg5 : w.heap.size + 1 + 1 + 1 ≠ w.heap.size + 1 := by omega
  obtain ⟨g, hg⟩ : ∃ g, g = w.heap.size + 1 + 1 + 1 := ⟨_, rfl⟩
  rw [← hg] at hown hg5
  obtain ⟨w2, hw2⟩ : ∃ W, W = w1.setCell ⟨w.heap.size + 1, 4, none⟩ (.slice (some ⟨g, 0, none⟩) k (k + 3)) := ⟨_, rfl⟩
  have hks : Keeps (fun i => i = w.heap.size + 1) w1 w2 := by rw [hw2]; exact Keeps.setCell _ _ _ rfl
  have hc2 : stB w.heap.size s (.slice ad k cap) w2 := box_old hb2 hks (by omega)
  have hc5 : stB (w.heap.size + 1) s (.slice (some ⟨g, 0, none⟩) k (k + 3)) w2 := by rw [hw2]; exact heap_setCell_same _ _ 4 _ _ _ hb5
  have hown2 : OwnL w2 g s.lines ⟨71, 0, 0⟩ := ⟨hks.row hown.row (by intro i hi; simp only [Value.ownBlock, Option.some.injEq] at hi; omega)⟩
  have hk03 : Keeps (fun _ => False) w w2 := hk02.trans (hks.mono fun i _ e => .inr (by omega))
  have hrl := hown2.reads
  rw [Hk.out] at hrl
  have hob := ownByte_any w2 adb capb B 71 (by rw [Hm.out]; exact Hrb'.out.keeps hk03 (by simp)) (by rw [Hm.out]; omega)
  rw [Hm.out] at hob
  have Hown := Lib.hid hown; clear hown; have Hk2 := Lib.hid hk2; clear hk2; have Hb2 := Lib.hid hb2; clear hb2; have Hb5 := Lib.hid hb5; clear hb5; have Hk02 := Lib.hid hk02; clear hk02; have Hg5 := Lib.hid hg5; clear hg5; have Hks := Lib.hid hks; clear hks; have Hc2 := Lib.hid hc2; clear hc2; have Hc5 := Lib.hid hc5; clear hc5; have Hown2 := Lib.hid hown2; clear hown2; have Hk03 := Lib.hid hk03; clear hk03; have Hrl := Lib.hid hrl; clear hrl; have Hob := Lib.hid hob; clear hob
  simp only [World.size_alloc]
  rw [← hg]
  have Hg := Lib.hid hg
  clear hg
  go_wp2_with fail
  rw [← hw2]
  have Hw2 := Lib.hid hw2
  clear hw2 p0 p1 p2 p3 p4 p5 p6 p7 p8 pl pf
  refine Hob.out.mono ?_
  rintro e w3 ⟨rfl, hob3, hk3⟩
  obtain ⟨h, hh⟩ : ∃ h, h = w2.heap.size := ⟨_, rfl⟩
  rw [← hh] at hob3
  rw [← hh]
  have hc23 := Hc2.out.keep hk3
  have hc53 := Hc5.out.keep hk3
  have hk04 := Hk03.out.nt hk3
  have hown3 := Hown2.out.keep hk3
  have hrl3 := Hrl.out.keeps hk3 (by simp)
  have hpp := pagePack_at (s := s) (w := w3) (ad := some ⟨g, 0, none⟩) (cap := k + 3) (by rw [Hk.out]; exact hrl3) (by rw [Hk.out]; omega) HX.out Hpe.out Hn.out
  rw [Hk.out] at hpp
  obtain ⟨p0, p1, p2, p3, p4, p5, p6, p7, p8⟩ := hc53.c
  have pl := lt_of_block hc53
  have Hh := Lib.hid hh; clear hh; have Hob3 := Lib.hid hob3; clear hob3; have Hk3 := Lib.hid hk3; clear hk3; have Hc23 := Lib.hid hc23; clear hc23; have Hc53 := Lib.hid hc53; clear hc53; have Hk04 := Lib.hid hk04; clear hk04; have Hown3 := Lib.hid hown3; clear hown3; have Hrl3 := Lib.hid hrl3; clear hrl3; have Hpp := Lib.hid hpp; clear hpp
  go_wp2_with fail
  refine Hpp.out.mono ?_
  rintro e w4 ⟨adx, capx, rfl, hrx, _, hk4⟩
  clear p0 p1 p2 p3 p4 p5 p6 p7 p8 pl
  have hc24 := Hc23.out.keep hk4
  have hc54 := Hc53.out.keep hk4
  have hk05 := Hk04.out.nt hk4
  have hown4 := Hown3.out.keep hk4
  have hob4 : OwnAt u8c 5 w4 h B 71 := ⟨box_old Hob3.out.blk hk4 (by simp)⟩
  have hrp := rpagePack_at (s := s) (w := w4) (ad := ad) (cap := cap) (by rw [Hk.out]; exact Hr.out.keeps hk05 (by simp)) (by rw [Hk.out]; omega) HX.out Hpe.out Hn.out
  rw [Hk.out] at hrp
  obtain ⟨p0, p1, p2, p3, p4, p5, p6, p7, p8⟩ := hc24.c
  have pl := lt_of_block hc24
  have Hk4 := Lib.hid hk4; clear hk4; have Hrx := Lib.hid hrx; clear hrx; have Hc24 := Lib.hid hc24; clear hc24; have Hc54 := Lib.hid hc54; clear hc54; have Hk05 := Lib.hid hk05; clear hk05; have Hown4 := Lib.hid hown4; clear hown4; have Hob4 := Lib.hid hob4; clear hob4; have Hrp := Lib.hid hrp; clear hrp
  go_wp2_with fail
  refine Hrp.out.mono ?_
  rintro e w5 ⟨ady, capy, rfl, hry, _, hk5⟩
  clear p0 p1 p2 p3 p4 p5 p6 p7 p8 pl
  have hc25 := Hc24.out.keep hk5
  have hc55 := Hc54.out.keep hk5
  have hk06 := Hk05.out.nt hk5
  have hown5 := Hown4.out.keep hk5
  have hob5 : OwnAt u8c 5 w5 h B 71 := ⟨box_old Hob4.out.blk hk5 (by simp)⟩
  have hrx5 := Hrx.out.keeps hk5 (by simp)
  have hry5 := Reads.of_owns hry
  have hrB : Reads w5 1 (.slice (some ⟨h, 0, none⟩) m (m + 3)) m (B.flatMap u8c) := by
    have h1 := hob5.reads (m + 3) (by rw [Hm.out]; omega) m (by rw [Hm.out]; omega) (by omega)
    rw [List.take_append_of_le_length (by rw [Hm.out]; exact Nat.le_refl _), ← Hm.out, List.take_length, Hm.out] at h1
    exact h1
  have htk := pageTake_at hrB Hm.out HB.out (by omega) Hu.out Hte.out
  have Hk5 := Lib.hid hk5; clear hk5; have Hry := Lib.hid hry; clear hry; have Hc25 := Lib.hid hc25; clear hc25; have Hc55 := Lib.hid hc55; clear hc55; have Hk06 := Lib.hid hk06; clear hk06; have Hown5 := Lib.hid hown5; clear hown5; have Hob5 := Lib.hid hob5; clear hob5; have Hrx5 := Lib.hid hrx5; clear hrx5; have Hry5 := Lib.hid hry5; clear hry5; have HrB := Lib.hid hrB; clear hrB; have Htk := Lib.hid htk; clear htk
  go_wp2_with fail
  refine Htk.out.mono ?_
  rintro e w6 ⟨adu, capu, rfl, hru, hk6⟩
  obtain ⟨b11, hb11⟩ : ∃ b, b = w6.heap.size := ⟨_, rfl⟩
  obtain ⟨w7, hw7⟩ : ∃ W, W = w6.alloc (.cells #[.int .i64 u.cycle, .int .i64 u.fr, .int .i64 u.te, .int .i64 u.due, .slice adu u.lines.length capu, .int .i64 u.total, .int .i64 u.credit, .int .i64 u.min, .bool u.grace] 26) := ⟨_, rfl⟩
  have hc11 : stB b11 u (.slice adu u.lines.length capu) w7 := by rw [hw7, hb11]; exact heap_alloc_new w6 _
  have hk7 : Keeps (fun _ => False) w5 w7 := by rw [hw7]; exact hk6.nt (Keeps.alloc _ _)
  have hru7 : Reads w7 3 (.slice adu u.lines.length capu) u.lines.length (u.lines.flatMap Ln.cells) := by rw [hw7]; exact hru.alloc _
  have hrt := rpageTake_at (w := w7) (ad := adb) (cap := capb) (n := m) (Hrb'.out.keeps (Hk06.out.nt hk7) (by simp)) Hm.out HB.out (by omega) Hu.out Hte.out
  have Hk6 := Lib.hid hk6; clear hk6; have Hru := Lib.hid hru; clear hru; have Hk7 := Lib.hid hk7; clear hk7; have Hc11 := Lib.hid hc11; clear hc11; have Hru7 := Lib.hid hru7; clear hru7; have Hrt := Lib.hid hrt; clear hrt
  go_wp2_with fail
  rw [← hw7, ← hb11]
  have Hw7 := Lib.hid hw7
  have Hb11 := Lib.hid hb11
  clear hw7 hb11
  refine Hrt.out.mono ?_
  rintro e w8 ⟨adv, capv, rfl, hrv, hk8⟩
  obtain ⟨b13, hb13⟩ : ∃ b, b = w8.heap.size := ⟨_, rfl⟩
  obtain ⟨w9, hw9⟩ : ∃ W, W = w8.alloc (.cells #[.int .i64 u.cycle, .int .i64 u.fr, .int .i64 u.te, .int .i64 u.due, .slice adv u.lines.length capv, .int .i64 u.total, .int .i64 u.credit, .int .i64 u.min, .bool u.grace] 26) := ⟨_, rfl⟩
  have hc13 : stB b13 u (.slice adv u.lines.length capv) w9 := by rw [hw9, hb13]; exact heap_alloc_new w8 _
  have hk9 : Keeps (fun _ => False) w7 w9 := by rw [hw9]; exact hk8.nt (Keeps.alloc _ _)
  have hrv9 : Reads w9 3 (.slice adv u.lines.length capv) u.lines.length (u.lines.flatMap Ln.cells) := by rw [hw9]; exact hrv.alloc _
  have hk59 := Hk7.out.nt hk9
  have hS : pkB w.heap.size (w.heap.size + 1) b11 b13 s u (.slice ad k cap) (.slice (some ⟨g, 0, none⟩) k (k + 3)) (.slice adu u.lines.length capu) (.slice adv u.lines.length capv) w9 :=
    ⟨Hc25.out.keep hk59, Hc55.out.keep hk59, Hc11.out.keep hk9, hc13⟩
  have Hk8 := Lib.hid hk8; clear hk8; have Hrv := Lib.hid hrv; clear hrv; have Hc13 := Lib.hid hc13; clear hc13; have Hk9 := Lib.hid hk9; clear hk9; have Hrv9 := Lib.hid hrv9; clear hrv9; have Hk59 := Lib.hid hk59; clear hk59; have HS := Lib.hid hS; clear hS
  go_upto_region 10 with fail
  rw [← hw9, ← hb13]
  have Hw9 := Lib.hid hw9
  have Hb13 := Lib.hid hb13
  clear hw9 hb13
  obtain ⟨b2, hb2⟩ : ∃ b, b = w.heap.size := ⟨_, rfl⟩
  rw [← hb2] at HS
  rw [← hb2]
  have Hb2 := Lib.hid hb2
  clear hb2
  obtain ⟨rb, hrb⟩ : ∃ b, s.rightB = b := ⟨_, rfl⟩
  obtain ⟨TX, hTX⟩ : ∃ X, tx (stmT s) = X := ⟨_, rfl⟩
  have c1 := fun W (hW : Keeps (fun _ => False) w9 W) => pageRight_at (w := W) (s := s) (v := .slice (some ⟨g, 0, none⟩) k (k + 3)) (by rw [Hk.out]; exact (Hrl3.out.keeps ((Hk4.out.nt Hk5.out).nt (Hk59.out.nt hW)) (by simp))) (by rw [Hk.out]; omega)
  have c2 := fun W (hW : Keeps (fun _ => False) w9 W) => rpageRight_at' (w := W) (s := s) (v := .slice ad k cap) (by rw [Hk.out]; exact Hr.out.keeps (Hk06.out.nt (Hk59.out.nt hW)) (by simp)) (by rw [Hk.out]; omega)
  have c3 := fun W (hW : Keeps (fun _ => False) w9 W) => helpBytes_eq X (.slice adx n capx) (.slice ady n capy) W (by rw [Hn.out]; exact Hrx5.out.keeps (Hk59.out.nt hW) (by simp)) (by rw [Hn.out]; exact Hry5.out.keeps (Hk59.out.nt hW) (by simp))
  have c4 := fun W (hW : Keeps (fun _ => False) w9 W) => sameStm_at (s := u) (w := W) (v1 := .slice adu u.lines.length capu) (v2 := .slice adv u.lines.length capv) (Hru7.out.keeps (Hk9.out.nt hW) (by simp)) (Hrv9.out.keeps hW (by simp)) (by omega)
  have c5 := fun W (hW : Keeps (fun _ => False) w9 W) => pageText_at (w := W) (s := s) (v := .slice (some ⟨g, 0, none⟩) k (k + 3)) (by rw [Hk.out]; exact (Hrl3.out.keeps ((Hk4.out.nt Hk5.out).nt (Hk59.out.nt hW)) (by simp))) (by rw [Hk.out]; omega) (ht.keeps (Hk06.out.nt (Hk59.out.nt hW)))
  have c6 := fun W (hW : Keeps (fun _ => False) w9 W) => rpageText_at (w := W) (s := s) (v := .slice ad k cap) (by rw [Hk.out]; exact Hr.out.keeps (Hk06.out.nt (Hk59.out.nt hW)) (by simp)) (by rw [Hk.out]; omega)
  have c7 := fun W (hW : Keeps (fun _ => False) w9 W) => keptLn_any g ad cap s.lines ⟨71, 0, 0⟩ W (Hown5.out.keep (Hk59.out.nt hW)) (by rw [Hk.out]; exact Hr.out.keeps (Hk06.out.nt (Hk59.out.nt hW)) (by simp)) (by rw [Hk.out]; omega)
  have c8 := fun W (hW : Keeps (fun _ => False) w9 W) => keptByte_any h adb capb B 71 W ⟨box_old Hob5.out.blk (Hk59.out.nt hW) (by simp)⟩ (by rw [Hm.out]; exact Hrb'.out.keeps (Hk06.out.nt (Hk59.out.nt hW)) (by simp)) (by rw [Hm.out]; omega)
  rw [hrb] at c1 c2
  rw [hTX] at c5 c6
  rw [Hk.out] at c7
  rw [Hm.out] at c8
  simp only [Ln.agg] at c7
  have Hrb := Lib.hid hrb; clear hrb; have HTX := Lib.hid hTX; clear hTX; have C1 := Lib.hid c1; clear c1; have C2 := Lib.hid c2; clear c2; have C3 := Lib.hid c3; clear c3; have C4 := Lib.hid c4; clear c4; have C5 := Lib.hid c5; clear c5; have C6 := Lib.hid c6; clear c6; have C7 := Lib.hid c7; clear c7; have C8 := Lib.hid c8; clear c8
  refine wp_region_mixw (pkS b2 (b2 + 1) b11 b13 s u (.slice ad k cap) (.slice (some ⟨g, 0, none⟩) k (k + 3)) (.slice adu u.lines.length capu) (.slice adv u.lines.length capv)) (.move 0 (.take 1 (.take 2 (.take 4 (.move 3 (.move 5 (.take 6 (.take 7 (.take 8 (.take 9 (.take 10 (.move 11 (.take 12 (.take 13 (.take 14 (.take 15 (.take 16 (.take 17 (.take 18 (.take 19 (.take 20 (.move 21 (.take 22 (.take 23 (.take 24 (.take 25 (.take 26 (.take 27 (.take 28 (.take 29 (.take 31 (.move 30 (.move 32 (.take 33 (.take 34 (.take 35 (.take 36 (.take 37 (.take 38 (.take 39 (.take 40 (.move 41 (.take 42 (.take 43 (.take 44 (.take 45 (.move 46 (.take 47 (.take 48 .done))))))))))))))))))))))))))))))))))))))))))))))))) (by kernel_rfl) (by kernel_rfl) ?_ ?_
  · exact (HS.out.keep (Keeps.drew _)).c
  intro v0 hs0 hk0
  clear hs0
  refine mix_move rfl (fun K hK => ?_)
  go_simp
  go_at_call 8
  ((with_reducible refine (awake20_any _).mono ?_); rintro e v1 ⟨rfl, hk1⟩; dsimp only)
  refine hK.out _ _ (by exact (HS.out.keep (hk0.nt hk1)).c) ?_
  clear hK K
  try simp only [Act.put, List.setIfInBounds_toArray, List.set_cons_zero, List.set_cons_succ]
  have hk01 := hk0.nt hk1
  have Hk0 := Lib.hid hk0; clear hk0; have Hk1 := Lib.hid hk1; clear hk1; have Hk01 := Lib.hid hk01; clear hk01
  repeat (first
    | (refine mix_skip rfl (by rfl) ?_; try simp only [Act.put, List.setIfInBounds_toArray, List.set_cons_zero, List.set_cons_succ])
    | (refine mix_skipm rfl (by rfl) ?_; try simp only [Act.put, List.setIfInBounds_toArray, List.set_cons_zero, List.set_cons_succ])
    | (refine mix_take (v := ?_) rfl (by rfl) ?_ ?_; rotate_left; (· intro w' hSw; unfold pkS stC at hSw; go_simp; (try with_reducible rfl)); rotate_right; try simp only [Act.put, List.setIfInBounds_toArray, List.set_cons_zero, List.set_cons_succ]))
  refine mix_move rfl (fun K hK => ?_)
  go_simp
  go_at_call 9
  ((with_reducible refine (C1.out _ Hk01.out).mono ?_); rintro e v2 ⟨rfl, hk2⟩; dsimp only)
  refine hK.out _ _ (by exact (HS.out.keep (Hk01.out.nt hk2)).c) ?_
  clear hK K
  try simp only [Act.put, List.setIfInBounds_toArray, List.set_cons_zero, List.set_cons_succ]
  have hk02' := Hk01.out.nt hk2
  have Hk2 := Lib.hid hk2; clear hk2; have Hk02' := Lib.hid hk02'; clear hk02'
  repeat (first
    | (refine mix_skip rfl (by rfl) ?_; try simp only [Act.put, List.setIfInBounds_toArray, List.set_cons_zero, List.set_cons_succ])
    | (refine mix_skipm rfl (by rfl) ?_; try simp only [Act.put, List.setIfInBounds_toArray, List.set_cons_zero, List.set_cons_succ])
    | (refine mix_take (v := ?_) rfl (by rfl) ?_ ?_; rotate_left; (· intro w' hSw; unfold pkS stC at hSw; go_simp; (try with_reducible rfl)); rotate_right; try simp only [Act.put, List.setIfInBounds_toArray, List.set_cons_zero, List.set_cons_succ]))
  refine mix_move rfl (fun K hK => ?_)
  go_simp
  go_at_call 16
  ((with_reducible refine (C2.out _ Hk02'.out).mono ?_); rintro e v3 ⟨rfl, hk3⟩; dsimp only)
  refine hK.out _ _ (by exact (HS.out.keep (Hk02'.out.nt hk3)).c) ?_
  clear hK K
  try simp only [Act.put, List.setIfInBounds_toArray, List.set_cons_zero, List.set_cons_succ]
  have hk03' := Hk02'.out.nt hk3
  have Hk3 := Lib.hid hk3; clear hk3; have Hk03' := Lib.hid hk03'; clear hk03'
  repeat (first
    | (refine mix_skip rfl (by rfl) ?_; try simp only [Act.put, List.setIfInBounds_toArray, List.set_cons_zero, List.set_cons_succ])
    | (refine mix_skipm rfl (by rfl) ?_; try simp only [Act.put, List.setIfInBounds_toArray, List.set_cons_zero, List.set_cons_succ])
    | (refine mix_take (v := ?_) rfl (by rfl) ?_ ?_; rotate_left; (· intro w' hSw; unfold pkS stC at hSw; go_simp; (try with_reducible rfl)); rotate_right; try simp only [Act.put, List.setIfInBounds_toArray, List.set_cons_zero, List.set_cons_succ]))
  refine mix_move rfl (fun K hK => ?_)
  go_simp
  go_at_call 17
  ((with_reducible refine (C3.out _ Hk03'.out).mono ?_); rintro e v4 ⟨rfl, hv4⟩; dsimp only)
  subst hv4
  refine hK.out _ _ (by exact (HS.out.keep Hk03'.out).c) ?_
  clear hK K
  try simp only [Act.put, List.setIfInBounds_toArray, List.set_cons_zero, List.set_cons_succ]
  repeat (first
    | (refine mix_skip rfl (by rfl) ?_; try simp only [Act.put, List.setIfInBounds_toArray, List.set_cons_zero, List.set_cons_succ])
    | (refine mix_skipm rfl (by rfl) ?_; try simp only [Act.put, List.setIfInBounds_toArray, List.set_cons_zero, List.set_cons_succ])
    | (refine mix_take (v := ?_) rfl (by rfl) ?_ ?_; rotate_left; (· intro w' hSw; unfold pkS stC at hSw; go_simp; (try with_reducible rfl)); rotate_right; try simp only [Act.put, List.setIfInBounds_toArray, List.set_cons_zero, List.set_cons_succ]))
  refine mix_move rfl (fun K hK => ?_)
  go_simp
  go_at_call 18
  ((with_reducible refine (C4.out _ Hk03'.out).mono ?_); rintro e v5 ⟨rfl, hk5⟩; dsimp only)
  refine hK.out _ _ (by exact (HS.out.keep (Hk03'.out.nt hk5)).c) ?_
  clear hK K
  try simp only [Act.put, List.setIfInBounds_toArray, List.set_cons_zero, List.set_cons_succ]
  have hk05' := Hk03'.out.nt hk5
  have Hk5 := Lib.hid hk5; clear hk5; have Hk05' := Lib.hid hk05'; clear hk05'
  repeat (first
    | (refine mix_skip rfl (by rfl) ?_; try simp only [Act.put, List.setIfInBounds_toArray, List.set_cons_zero, List.set_cons_succ])
    | (refine mix_skipm rfl (by rfl) ?_; try simp only [Act.put, List.setIfInBounds_toArray, List.set_cons_zero, List.set_cons_succ])
    | (refine mix_take (v := ?_) rfl (by rfl) ?_ ?_; rotate_left; (· intro w' hSw; unfold pkS stC at hSw; go_simp; (try with_reducible rfl)); rotate_right; try simp only [Act.put, List.setIfInBounds_toArray, List.set_cons_zero, List.set_cons_succ]))
  refine mix_move rfl (fun K hK => ?_)
  go_simp
  go_at_call 10
  ((with_reducible refine (C5.out _ Hk05'.out).mono ?_); rintro e v6 ⟨rfl, hk6⟩; dsimp only)
  refine hK.out _ _ (by exact (HS.out.keep (Hk05'.out.nt hk6)).c) ?_
  clear hK K
  try simp only [Act.put, List.setIfInBounds_toArray, List.set_cons_zero, List.set_cons_succ]
  have hk06' := Hk05'.out.nt hk6
  have Hk6 := Lib.hid hk6; clear hk6; have Hk06' := Lib.hid hk06'; clear hk06'
  repeat (first
    | (refine mix_skip rfl (by rfl) ?_; try simp only [Act.put, List.setIfInBounds_toArray, List.set_cons_zero, List.set_cons_succ])
    | (refine mix_skipm rfl (by rfl) ?_; try simp only [Act.put, List.setIfInBounds_toArray, List.set_cons_zero, List.set_cons_succ])
    | (refine mix_take (v := ?_) rfl (by rfl) ?_ ?_; rotate_left; (· intro w' hSw; unfold pkS stC at hSw; go_simp; (try with_reducible rfl)); rotate_right; try simp only [Act.put, List.setIfInBounds_toArray, List.set_cons_zero, List.set_cons_succ]))
  refine mix_move rfl (fun K hK => ?_)
  go_simp
  go_at_call 19
  ((with_reducible refine (C6.out _ Hk06'.out).mono ?_); rintro e v7 ⟨rfl, hk7⟩; dsimp only)
  refine hK.out _ _ (by exact (HS.out.keep (Hk06'.out.nt hk7)).c) ?_
  clear hK K
  try simp only [Act.put, List.setIfInBounds_toArray, List.set_cons_zero, List.set_cons_succ]
  have hk07' := Hk06'.out.nt hk7
  have Hk7 := Lib.hid hk7; clear hk7; have Hk07' := Lib.hid hk07'; clear hk07'
  repeat (first
    | (refine mix_skip rfl (by rfl) ?_; try simp only [Act.put, List.setIfInBounds_toArray, List.set_cons_zero, List.set_cons_succ])
    | (refine mix_skipm rfl (by rfl) ?_; try simp only [Act.put, List.setIfInBounds_toArray, List.set_cons_zero, List.set_cons_succ])
    | (refine mix_take (v := ?_) rfl (by rfl) ?_ ?_; rotate_left; (· intro w' hSw; unfold pkS stC at hSw; go_simp; (try with_reducible rfl)); rotate_right; try simp only [Act.put, List.setIfInBounds_toArray, List.set_cons_zero, List.set_cons_succ]))
  refine mix_move rfl (fun K hK => ?_)
  go_simp
  go_at_call 20
  ((with_reducible refine (C7.out _ Hk07'.out).mono ?_); rintro e v8 ⟨rfl, hk8⟩; dsimp only)
  refine hK.out _ _ (by exact (HS.out.keep (Hk07'.out.nt hk8)).c) ?_
  clear hK K
  try simp only [Act.put, List.setIfInBounds_toArray, List.set_cons_zero, List.set_cons_succ]
  have hk08' := Hk07'.out.nt hk8
  have Hk8 := Lib.hid hk8; clear hk8; have Hk08' := Lib.hid hk08'; clear hk08'
  repeat (first
    | (refine mix_skip rfl (by rfl) ?_; try simp only [Act.put, List.setIfInBounds_toArray, List.set_cons_zero, List.set_cons_succ])
    | (refine mix_skipm rfl (by rfl) ?_; try simp only [Act.put, List.setIfInBounds_toArray, List.set_cons_zero, List.set_cons_succ])
    | (refine mix_take (v := ?_) rfl (by rfl) ?_ ?_; rotate_left; (· intro w' hSw; unfold pkS stC at hSw; go_simp; (try with_reducible rfl)); rotate_right; try simp only [Act.put, List.setIfInBounds_toArray, List.set_cons_zero, List.set_cons_succ]))
  refine mix_move rfl (fun K hK => ?_)
  go_simp
  go_at_call 21
  ((with_reducible refine (C8.out _ Hk08'.out).mono ?_); rintro e v9 ⟨rfl, hk9⟩; dsimp only)
  refine hK.out _ _ (by exact (HS.out.keep (Hk08'.out.nt hk9)).c) ?_
  clear hK K
  try simp only [Act.put, List.setIfInBounds_toArray, List.set_cons_zero, List.set_cons_succ]
  have hk09' := Hk08'.out.nt hk9
  have Hk9 := Lib.hid hk9; clear hk9; have Hk09' := Lib.hid hk09'; clear hk09'
  repeat (first
    | (refine mix_skip rfl (by rfl) ?_; try simp only [Act.put, List.setIfInBounds_toArray, List.set_cons_zero, List.set_cons_succ])
    | (refine mix_skipm rfl (by rfl) ?_; try simp only [Act.put, List.setIfInBounds_toArray, List.set_cons_zero, List.set_cons_succ])
    | (refine mix_take (v := ?_) rfl (by rfl) ?_ ?_; rotate_left; (· intro w' hSw; unfold pkS stC at hSw; go_simp; (try with_reducible rfl)); rotate_right; try simp only [Act.put, List.setIfInBounds_toArray, List.set_cons_zero, List.set_cons_succ]))
  refine mix_done ?_
  go_wp2
  go_ret
  exact ⟨rfl, (Hk06.out.nt (Hk59.out.nt Hk09'.out)).below (by simp) (Nat.le_refl _)⟩
end Go.Proofs.YthokcmbgamanbaaDoor
