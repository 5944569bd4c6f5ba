/- The walks of the adjust layer: what has become of a statement. -/
import Derived.Test.YthokcmbgamanbaaAdj7
import Derived.Deep.DeepCutAuto
namespace Go.Proofs.Ythokcmbgamanbaa
open Go.RowKit
theorem info_tAdjust : (Try.prog.info? 69).map (fun i => (i.zero, i.size, i.bytes)) = some (some (.agg #[.int .i64 0, .int .i64 0, .int .i64 0, .int .i64 0, .int .i64 0, .int .i64 0, .int .i64 0, .int .i64 0, .int .i64 0]), 9, 72) := by kernel_rfl
/-- What has become of a line. -/
def lineAdj (seq cy : Int) (k : Nat) (x y : Ln) : List Adj :=
  if x.balance = y.balance ∧ x.interest = y.interest then [] else [⟨seq, cy, (k : Int) + 1, y.balance - x.balance, y.interest - x.interest, 0, 0, 0, 0⟩]
/-- .. of the first lines. -/
def linesAdj (seq cy : Int) (X Y : List Ln) : Nat → List Adj
  | 0 => []
  | k + 1 => linesAdj seq cy X Y k ++ (match X[k]?, Y[k]? with | some x, some y => lineAdj seq cy k x y | _, _ => [])
def wholeAdj (seq : Int) (a b : Stm) : Adj := ⟨seq, a.cycle, 0, 0, 0, b.total - a.total, b.credit - a.credit, b.min - a.min, turnedI a.grace b.grace⟩
def wholeSame (a b : Stm) : Bool := decide (a.total = b.total) && decide (a.credit = b.credit) && decide (a.min = b.min) && (a.grace == b.grace)
/-- What has become of a statement. -/
def oneAdj (seq : Int) (a b : Stm) : List Adj := linesAdj seq a.cycle a.lines b.lines a.lines.length ++ if wholeSame a b then [] else [wholeAdj seq a b]
def Stm.blk (s : Stm) (v : Value) : Array Value := #[.int .i64 s.cycle, .int .i64 s.fr, .int .i64 s.to, .int .i64 s.due, v, .int .i64 s.total, .int .i64 s.credit, .int .i64 s.min, .bool s.grace]
structure OneS (w W : World) (seq : Int) (a b : Stm) (va vb : Value) (W0 : Nat) (v : Value) (k : Nat) : Prop where
  ba : W.heap[w.heap.size]? = some (.cells (a.blk va) 44 (0, 0))
  bb : W.heap[w.heap.size + 1]? = some (.cells (b.blk vb) 44 (0, 0))
  bw : W.heap[W0]? = some (.cells (wholeAdj seq a b).cells.toArray 69 (0, 0))
  w0 : w.heap.size + 1 < W0
  row : W.ownsRow 0 69 9 v (linesAdj seq a.cycle a.lines b.lines k).length ((linesAdj seq a.cycle a.lines b.lines k).flatMap Adj.cells)
  kp : Keeps (fun _ => False) w W
  nw : ∀ g, v.ownBlock = some g → W0 < g
theorem OneS.keep {w W W' : World} {seq : Int} {a b : Stm} {va vb : Value} {W0 : Nat} {v : Value} {k : Nat} (h : OneS w W seq a b va vb W0 v k) (hk : Keeps (fun _ => False) W W') : OneS w W' seq a b va vb W0 v k :=
  ⟨box_old h.ba hk (by simp), box_old h.bb hk (by simp), box_old h.bw hk (by simp), h.w0, hk.row h.row (by simp), h.kp.none_trans hk, h.nw⟩
def slotNat (i : Nat) (a' : Act) : Nat := match a'.tmps.getD i undef with | .int _ n => n.toNat | _ => 0
def oneFr (w : World) (seq : Int) (W0 : Nat) (v : Value) (k : Nat) (u : Nat → Value) : Act := { tmps := #[.int .i64 seq, u 1, u 2, u 3, (.pointer (some ⟨w.heap.size, 0, none⟩)), (.pointer (some ⟨w.heap.size + 1, 0, none⟩)), u 6, v, .int .i64 k, (.pointer (some ⟨W0, 0, none⟩)), u 10, u 11, u 12, u 13, u 14, u 15, u 16, u 17, u 18, u 19, u 20, u 21, u 22, u 23, u 24, u 25, u 26, u 27, u 28, u 29, u 30, u 31, u 32, u 33, u 34, u 35, u 36, u 37, u 38, u 39, u 40, u 41, u 42, u 43, u 44, u 45, u 46, u 47, u 48, u 49, u 50, u 51, u 52, u 53, u 54, u 55, u 56, u 57, u 58, u 59, u 60, u 61, u 62, u 63, u 64, u 65, u 66, u 67, u 68, u 69, u 70, u 71, u 72, u 73, u 74, u 75, u 76, u 77, u 78, u 79, u 80, u 81, u 82, u 83, u 84, u 85, u 86, u 87, u 88, u 89, u 90, u 91, u 92, u 93], defers := [] }
def oneJ (w : World) (seq : Int) (a b : Stm) (va vb : Value) (a' : Act) (W : World) : Prop := ∃ (W0 : Nat) (v : Value) (k : Nat) (u : Nat → Value), a' = oneFr w seq W0 v k u ∧ OneS w W seq a b va vb W0 v k ∧ k ≤ a.lines.length
theorem oneJ.mk {w W : World} {seq : Int} {a b : Stm} {va vb : Value} {a' : Act} (W0 : Nat) (v : Value) (k : Nat) (h : a' = oneFr w seq W0 v k (fun i => a'.tmps.getD i undef)) (hs : OneS w W seq a b va vb W0 v k) (hk : k ≤ a.lines.length) : oneJ w seq a b va vb a' W := ⟨W0, v, k, _, h, hs, hk⟩
def OnePost (w : World) (seq : Int) (a b : Stm) (e : Ending) (w' : World) : Prop :=
  ∃ v, e = .returned v ∧ w'.ownsRow 0 69 9 v (oneAdj seq a b).length ((oneAdj seq a b).flatMap Adj.cells) ∧ Fresh w w' v
theorem moneyB_bd {v : Int} (h : moneyB v = true) : 0 ≤ v ∧ v ≤ 1000000000000000 := by
  have hd : moneyB v = decide (0 ≤ v ∧ v ≤ 1000000000000000) := rfl
  rw [hd] at h; simpa using h
theorem numbersB_bd {s : Stm} (h : s.numbersB = true) : (0 ≤ s.total ∧ s.total ≤ 1000000000000000) ∧ (0 ≤ s.credit ∧ s.credit ≤ 1000000000000000) ∧ (0 ≤ s.min ∧ s.min ≤ 1000000000000000) := by
  simp only [Stm.numbersB, allMoney, List.all_cons, List.all_nil, Bool.and_eq_true, Bool.and_true] at h
  exact ⟨moneyB_bd h.2.1, moneyB_bd h.2.2.1, moneyB_bd h.2.2.2⟩
theorem numbersB_ln {s : Stm} (h : s.numbersB = true) {k : Nat} {x : Ln} (hx : s.lines[k]? = some x) : (0 ≤ x.balance ∧ x.balance ≤ 1000000000000000) ∧ (0 ≤ x.interest ∧ x.interest ≤ 1000000000000000) := by
  simp only [Stm.numbersB, Bool.and_eq_true] at h
  have := List.all_eq_true.1 h.1 x (List.mem_of_getElem? hx)
  simp only [Ln.numsB, allMoney, List.all_cons, List.all_nil, Bool.and_eq_true, Bool.and_true] at this
  exact ⟨moneyB_bd this.1, moneyB_bd this.2⟩
def onS (w : World) (a b : Stm) (w' : World) : Prop := w'.cell? ⟨w.heap.size, 0, none⟩ = some (.int .i64 a.cycle) ∧ w'.cell? ⟨w.heap.size, 5, none⟩ = some (.int .i64 a.total) ∧ w'.cell? ⟨w.heap.size, 6, none⟩ = some (.int .i64 a.credit) ∧ w'.cell? ⟨w.heap.size, 7, none⟩ = some (.int .i64 a.min) ∧ w'.cell? ⟨w.heap.size, 8, none⟩ = some (.bool a.grace) ∧ w'.cell? ⟨w.heap.size + 1, 5, none⟩ = some (.int .i64 b.total) ∧ w'.cell? ⟨w.heap.size + 1, 6, none⟩ = some (.int .i64 b.credit) ∧ w'.cell? ⟨w.heap.size + 1, 7, none⟩ = some (.int .i64 b.min) ∧ w'.cell? ⟨w.heap.size + 1, 8, none⟩ = some (.bool b.grace)
theorem onS.keep {w W W' : World} {a b : Stm} (h : onS w a b W) (hk : Keeps (fun _ => False) W W') : onS w a b W' := by
  obtain ⟨h0, h1, h2, h3, h4, h5, h6, h7, h8⟩ := h
  exact ⟨(hk.cell (cell_lt h0) (by simp)).trans h0, (hk.cell (cell_lt h1) (by simp)).trans h1, (hk.cell (cell_lt h2) (by simp)).trans h2, (hk.cell (cell_lt h3) (by simp)).trans h3, (hk.cell (cell_lt h4) (by simp)).trans h4, (hk.cell (cell_lt h5) (by simp)).trans h5, (hk.cell (cell_lt h6) (by simp)).trans h6, (hk.cell (cell_lt h7) (by simp)).trans h7, (hk.cell (cell_lt h8) (by simp)).trans h8⟩
def onL (B g o g' o' k n ca cb : Nat) (xb xi xr yb yi yr : Int) (w' : World) : Prop :=
  w'.cell? ⟨B, 4, none⟩ = some (.slice (some ⟨g, o, none⟩) n ca) ∧ w'.cell? ⟨B + 1, 4, none⟩ = some (.slice (some ⟨g', o', none⟩) n cb) ∧ w'.cell? ⟨g, o + k * 3, none⟩ = some (.int .i64 xb) ∧ w'.cell? ⟨g, o + k * 3 + 1, none⟩ = some (.int .i64 xi) ∧ w'.cell? ⟨g, o + k * 3 + 2, none⟩ = some (.int .i64 xr) ∧
    w'.cell? ⟨g', o' + k * 3, none⟩ = some (.int .i64 yb) ∧ w'.cell? ⟨g', o' + k * 3 + 1, none⟩ = some (.int .i64 yi) ∧ w'.cell? ⟨g', o' + k * 3 + 2, none⟩ = some (.int .i64 yr)
theorem onL.keep {B g o g' o' k n ca cb : Nat} {xb xi xr yb yi yr : Int} {W W' : World} (h : onL B g o g' o' k n ca cb xb xi xr yb yi yr W) (hk : Keeps (fun _ => False) W W') : onL B g o g' o' k n ca cb xb xi xr yb yi yr W' := by
  obtain ⟨h0, h1, h2, h3, h4, h5, h6, h7⟩ := h
  exact ⟨(hk.cell (cell_lt h0) (by simp)).trans h0, (hk.cell (cell_lt h1) (by simp)).trans h1, (hk.cell (cell_lt h2) (by simp)).trans h2, (hk.cell (cell_lt h3) (by simp)).trans h3, (hk.cell (cell_lt h4) (by simp)).trans h4, (hk.cell (cell_lt h5) (by simp)).trans h5, (hk.cell (cell_lt h6) (by simp)).trans h6, (hk.cell (cell_lt h7) (by simp)).trans h7⟩
/-- A scope with a label that is jumped back to, where what stands ahead of the label falls through to it. -/
theorem wp_scope_jumps3 {P : Program} {a : Act} {w : World} {Q : Exit → Act → World → Prop} {c rest : Code} (l : Nat) (J : Act → World → Prop) (M : Act → World → Nat) (hf : findLabel c l = some (Code.skip.seq rest))
    (round : ∀ a w, J a w → rest.wp P (Exit.jump l (fun a' w' => J a' w' ∧ M a' w' < M a w) Q) a w)
    (first : (∀ a w, J a w → rest.wp P (Exit.jump l J Q) a w) → c.wp P (Exit.jump l J Q) a w) : (Code.scope c).wp P Q a w := by
  refine wp_scope_jumps2 l J M hf (fun a w hJ => wp_seq (wp_skip (round a w hJ))) fun _ => first fun a w hJ => Code.wp_mono ?_ (round a w hJ)
  intro e a' w' h
  cases e with
  | goto k => exact ⟨h.1, h.2.1⟩
  | _ => exact h
theorem heap_alloc_at (w : World) (o : Obj) {i : Nat} (h : i = w.heap.size) : (w.alloc o).heap[i]? = some o := by subst h; exact heap_alloc_new w o
theorem linesAdj_le (seq cy : Int) (X Y : List Ln) : ∀ k, (linesAdj seq cy X Y k).length ≤ k
  | 0 => Nat.le_refl _
  | k + 1 => by
    have ih := linesAdj_le seq cy X Y k
    simp only [linesAdj, List.length_append]
    have : (match X[k]?, Y[k]? with | some x, some y => lineAdj seq cy k x y | _, _ => []).length ≤ 1 := by
      rcases X[k]? with _ | x <;> rcases Y[k]? with _ | y <;> simp
      unfold lineAdj; split <;> simp
    omega
theorem OneS.app {w W W' : World} {seq : Int} {a b : Stm} {va vb : Value} {W0 : Nat} {v v' : Value} {k : Nat} {x : Adj} {m : Nat} {xs : List Value} (h : OneS w W seq a b va vb W0 v k) (hl : linesAdj seq a.cycle a.lines b.lines (k + 1) = linesAdj seq a.cycle a.lines b.lines k ++ [x])
    (hm : m = (linesAdj seq a.cycle a.lines b.lines k).length + 1) (hx : xs = (linesAdj seq a.cycle a.lines b.lines k).flatMap Adj.cells ++ x.cells) (ho : W'.ownsRow 0 69 9 v' m xs) (hk : Keeps (fun i => v.ownBlock = some i) W W') (hf : v'.ownBlock = v.ownBlock ∨ ∃ g, v'.ownBlock = some g ∧ W.heap.size ≤ g) :
    OneS w W' seq a b va vb W0 v' (k + 1) := by
  have hbw := lt_of_block h.bw
  have n1 : ∀ g, v.ownBlock = some g → w.heap.size + 1 < g := fun g hg => by have := h.nw g hg; have := h.w0; omega
  refine ⟨box_old h.ba hk (fun e => by have := n1 _ e; omega), box_old h.bb hk (fun e => by have := n1 _ e; omega), box_old h.bw hk (fun e => by have := h.nw _ e; omega), h.w0, ?_, h.kp.trans (hk.mono fun i _ e => by right; have := n1 _ e; omega), fun g hg => ?_⟩
  · rw [hl]
    simp only [List.length_append, List.length_singleton, List.flatMap_append, List.flatMap_cons, List.flatMap_nil, List.append_nil]
    rw [← hx, ← hm]; exact ho
  · rcases hf with e | ⟨g', e, h'⟩
    · exact h.nw g (by rw [← e]; exact hg)
    · rw [e] at hg; simp only [Option.some.injEq] at hg; omega
theorem wholeSame_iff (a b : Stm) : wholeSame a b = true ↔ (b.total - a.total = 0 ∧ b.credit - a.credit = 0 ∧ b.min - a.min = 0 ∧ turnedI a.grace b.grace = 0) := by
  have hg : (a.grace == b.grace) = true ↔ turnedI a.grace b.grace = 0 := by cases a.grace <;> cases b.grace <;> decide
  simp only [wholeSame, Bool.and_eq_true, decide_eq_true_eq, hg]
  constructor
  · rintro ⟨⟨⟨h1, h2⟩, h3⟩, h4⟩; exact ⟨by omega, by omega, by omega, h4⟩
  · rintro ⟨h1, h2, h3, h4⟩; exact ⟨⟨⟨by omega, by omega⟩, by omega⟩, h4⟩
set_option maxRecDepth 100000 in
set_option maxHeartbeats 3200000 in
theorem adjOne_any (seq : Int) (a b : Stm) (va vb : Value) (w : World) (hra : Reads w 3 va a.lines.length (a.lines.flatMap Ln.cells)) (hrb : Reads w 3 vb b.lines.length (b.lines.flatMap Ln.cells)) (hab : a.lines.length = b.lines.length) (hl : a.lines.length ≤ 1000000)
    (hna : a.numbersB = true) (hnb : b.numbersB = true) :
    Calls Try.prog 52 #[.int .i64 seq, a.val va, b.val vb] w (OnePost w seq a b) := by
  obtain ⟨i0, hi, hi0, hi1, hi2⟩ := info_parts info_tAdjust
  simp only [Stm.val]
  have hba := heap_alloc_new w (.cells (a.blk va) 44)
  have hbb := heap_alloc_new (w.alloc (.cells (a.blk va) 44)) (.cells (b.blk vb) 44)
  rw [show (w.alloc (.cells (a.blk va) 44)).heap.size = w.heap.size + 1 by simp] at hbb
  have hba2 := box_alloc hba (.cells (b.blk vb) 44)
  have m0 := numbersB_bd hna
  have m1 := numbersB_bd hnb
  obtain ⟨⟨ta0, ta1⟩, ⟨ca0, ca1⟩, ⟨ma0, ma1⟩⟩ := m0
  obtain ⟨⟨tb0, tb1⟩, ⟨cb0, cb1⟩, ⟨mb0, mb1⟩⟩ := m1
  have w0 : IntKind.i64.wrap (b.total - a.total) = b.total - a.total := IntWalk.i64_in _ (by omega)
  have w1 : IntKind.i64.wrap (b.credit - a.credit) = b.credit - a.credit := IntWalk.i64_in _ (by omega)
  have w2 : IntKind.i64.wrap (b.min - a.min) = b.min - a.min := IntWalk.i64_in _ (by omega)
  clear ta0 ta1 ca0 ca1 ma0 ma1 tb0 tb1 cb0 cb1 mb0 mb1
  have Hra := Lib.hid hra; clear hra; have Hrb := Lib.hid hrb; clear hrb; have Hab := Lib.hid hab; clear hab; have Hna := Lib.hid hna; clear hna; have Hnb := Lib.hid hnb; clear hnb; have Hba := Lib.hid hba; clear hba; have Hba2 := Lib.hid hba2; clear hba2; have Hbb := Lib.hid hbb; clear hbb; have Hi := Lib.hid hi; clear hi; have Hi0 := Lib.hid hi0; clear hi0; have Hi1 := Lib.hid hi1; clear hi1; have Hi2 := Lib.hid hi2; clear hi2
  go_enter Try.func52, Try.ntmps52
  go_wp2_with fail
  refine wp_scope_jumps3 0 (oneJ w seq a b va vb) (fun a' _ => a.lines.length - slotNat 8 a') rfl ?_ ?_
  · rintro a' W ⟨W0, v, k, u, rfl, hs, hk⟩
    unfold oneFr
    have a0 : W.cell? ⟨w.heap.size, 0, none⟩ = some (.int .i64 a.cycle) := cell_of_cells hs.ba 0
    have a3 : W.cell? ⟨w.heap.size, 4, none⟩ = some va := cell_of_cells hs.ba 4
    have b3 : W.cell? ⟨w.heap.size + 1, 4, none⟩ = some vb := cell_of_cells hs.bb 4
    have la := lt_of_block hs.ba
    have lb := lt_of_block hs.bb
    obtain ⟨n, hn⟩ : ∃ n, a.lines.length = n := ⟨_, rfl⟩
    have hra := Hra.out.keeps hs.kp (by simp)
    have hrb := Hrb.out.keeps hs.kp (by simp)
    rw [← Hab.out] at hrb
    have hra' := hra
    have hrb' := hrb
    obtain ⟨ada, ca, rfl, hca, _⟩ := hra'
    obtain ⟨adb, cb, rfl, hcb, _⟩ := hrb'
    rw [hn] at hra hrb a3 b3 hca hcb hk hl hs
    by_cases hkn : k < n
    · obtain ⟨x, hx⟩ := get_some (L := a.lines) (k := k) (by omega)
      obtain ⟨y, hy⟩ := get_some (L := b.lines) (k := k) (by rw [← Hab.out]; omega)
      obtain ⟨g, o, c, he, hc⟩ := hra.elem Ln.cells_length hx (by decide)
      obtain ⟨g', o', c', he', hc'⟩ := hrb.elem Ln.cells_length hy (by decide)
      simp only [Value.slice.injEq, true_and] at he he'
      obtain ⟨rfl, rfl⟩ := he
      obtain ⟨rfl, rfl⟩ := he'
      have bx := numbersB_ln Hna.out hx
      have bY := numbersB_ln Hnb.out hy
      have hlin : linesAdj seq a.cycle a.lines b.lines (k + 1) = linesAdj seq a.cycle a.lines b.lines k ++ lineAdj seq a.cycle k x y := by simp only [linesAdj, hx, hy]
      obtain ⟨xb, xi, xr⟩ := x
      obtain ⟨yb, yi, yr⟩ := y
      obtain ⟨⟨xb0, xb1⟩, ⟨xi0, xi1⟩⟩ := bx
      obtain ⟨⟨yb0, yb1⟩, ⟨yi0, yi1⟩⟩ := bY
      simp only at xb0 xb1 xi0 xi1 yb0 yb1 yi0 yi1
      have x0 : W.cell? ⟨g, o + k * 3, none⟩ = some (.int .i64 xb) := hc 0 (by decide)
      have x1 : W.cell? ⟨g, o + k * 3 + 1, none⟩ = some (.int .i64 xi) := hc 1 (by decide)
      have x2 : W.cell? ⟨g, o + k * 3 + 2, none⟩ = some (.int .i64 xr) := hc 2 (by decide)
      have y0 : W.cell? ⟨g', o' + k * 3, none⟩ = some (.int .i64 yb) := hc' 0 (by decide)
      have y1 : W.cell? ⟨g', o' + k * 3 + 1, none⟩ = some (.int .i64 yi) := hc' 1 (by decide)
      have y2 : W.cell? ⟨g', o' + k * 3 + 2, none⟩ = some (.int .i64 yr) := hc' 2 (by decide)
      have hkI : (k : Int) < (n : Int) := by omega
      have hk0 : (0 : Int) ≤ (k : Int) := by omega
      clear hc hc'
      have Hs := Lib.hid hs; clear hs; have Hra := Lib.hid hra; clear hra; have Hrb := Lib.hid hrb; clear hrb; have Hx := Lib.hid hx; clear hx; have Hy := Lib.hid hy; clear hy; have Hlin := Lib.hid hlin; clear hlin; have Hn := Lib.hid hn; clear hn
      go_upto_region 5 with (fail)
      go_cut [10, 11] (fun s10 s11 wx => ∃ X Y, s10 = (.pointer (some ⟨X, 0, none⟩)) ∧ s11 = (.pointer (some ⟨Y, 0, none⟩)) ∧ Hid (wx.heap[X]? = some (.cells #[.int .i64 xb, .int .i64 xi, .int .i64 xr] 62 (0, 0))) ∧ Hid (wx.heap[Y]? = some (.cells #[.int .i64 yb, .int .i64 yi, .int .i64 yr] 62 (0, 0))) ∧ Hid (OneS w wx seq a b (.slice (some ⟨g, o, none⟩) n ca) (.slice (some ⟨g', o', none⟩) n cb) W0 v k))
      case first =>
        refine wp_region_mixw (onL w.heap.size g o g' o' k n ca cb xb xi xr yb yi yr) (.take 0 (.take 1 (.take 2 (.take 3 (.take 4 (.take 5 (.take 6 (.take 7 (.take 8 (.take 9 (.fork 10 (.move 11 (.move 12 (.move 13 .done))) 11 (.move 10 (.move 12 (.move 13 .done)))))))))))))) (by kernel_rfl) (by kernel_rfl) ?_ ?_
        · refine ⟨?_, ?_, ?_, ?_, ?_, ?_, ?_, ?_⟩ <;> go_simp
        intro w3 hs3 hk3
        have HS3 := Lib.hid hs3; clear hs3
        have Hk3 := Lib.hid hk3; clear hk3
        repeat (first
          | (refine mix_skip rfl (by rfl) ?_; try simp only [Act.put, List.setIfInBounds_toArray, List.set_cons_zero, List.set_cons_succ])
          | (refine mix_skipm rfl (by rfl) ?_; try simp only [Act.put, List.setIfInBounds_toArray, List.set_cons_zero, List.set_cons_succ])
          | (refine mix_take (v := ?_) rfl (by rfl) ?_ ?_; rotate_left; (· intro w' hSw; unfold onL at hSw; go_simp; (try with_reducible rfl)); rotate_right; try simp only [Act.put, List.setIfInBounds_toArray, List.set_cons_zero, List.set_cons_succ]))
        refine mix_fork ?_ ?_ HS3.out
        ·
          refine mix_move rfl (fun K hK => ?_)
          go_simp
          refine hK.out _ _ (by exact HS3.out.keep (Keeps.alloc _ _)) ?_
          clear hK K
          try simp only [Act.put, List.setIfInBounds_toArray, List.set_cons_zero, List.set_cons_succ]
          refine mix_move rfl (fun K hK => ?_)
          go_simp
          refine hK.out _ _ (by exact (HS3.out.keep (Keeps.alloc _ _)).keep (Keeps.alloc _ _)) ?_
          clear hK K
          try simp only [Act.put, List.setIfInBounds_toArray, List.set_cons_zero, List.set_cons_succ]
          refine mix_move rfl (fun K hK => ?_)
          go_simp
          refine hK.out _ _ (by exact (HS3.out.keep (Keeps.alloc _ _)).keep (Keeps.alloc _ _)) ?_
          clear hK K
          try simp only [Act.put, List.setIfInBounds_toArray, List.set_cons_zero, List.set_cons_succ]
          refine mix_move rfl (fun K hK => ?_)
          go_simp
          refine hK.out _ _ (by exact (HS3.out.keep (Keeps.alloc _ _)).keep (Keeps.alloc _ _)) ?_
          clear hK K
          try simp only [Act.put, List.setIfInBounds_toArray, List.set_cons_zero, List.set_cons_succ]
          refine mix_done ?_
          go_wp2_with fail
          go_meet
          exact ⟨_, _, rfl, rfl, Lib.hid (box_alloc (heap_alloc_new _ _) _), Lib.hid (heap_alloc_at _ _ (by simp)), Lib.hid (((Hs.out.keep Hk3.out).keep (Keeps.alloc _ _)).keep (Keeps.alloc _ _))⟩
        ·
          refine mix_move rfl (fun K hK => ?_)
          go_simp
          refine hK.out _ _ (by exact HS3.out.keep (Keeps.alloc _ _)) ?_
          clear hK K
          try simp only [Act.put, List.setIfInBounds_toArray, List.set_cons_zero, List.set_cons_succ]
          refine mix_move rfl (fun K hK => ?_)
          go_simp
          refine hK.out _ _ (by exact (HS3.out.keep (Keeps.alloc _ _)).keep (Keeps.alloc _ _)) ?_
          clear hK K
          try simp only [Act.put, List.setIfInBounds_toArray, List.set_cons_zero, List.set_cons_succ]
          refine mix_move rfl (fun K hK => ?_)
          go_simp
          refine hK.out _ _ (by exact (HS3.out.keep (Keeps.alloc _ _)).keep (Keeps.alloc _ _)) ?_
          clear hK K
          try simp only [Act.put, List.setIfInBounds_toArray, List.set_cons_zero, List.set_cons_succ]
          refine mix_move rfl (fun K hK => ?_)
          go_simp
          refine hK.out _ _ (by exact (HS3.out.keep (Keeps.alloc _ _)).keep (Keeps.alloc _ _)) ?_
          clear hK K
          try simp only [Act.put, List.setIfInBounds_toArray, List.set_cons_zero, List.set_cons_succ]
          refine mix_done ?_
          go_wp2_with fail
          go_meet
          exact ⟨_, _, rfl, rfl, Lib.hid (heap_alloc_at _ _ (by simp)), Lib.hid (box_alloc (heap_alloc_new _ _) _), Lib.hid (((Hs.out.keep Hk3.out).keep (Keeps.alloc _ _)).keep (Keeps.alloc _ _))⟩
      case rest =>
        obtain ⟨X, Y, rfl, rfl, HX, HY, Hs5⟩ := hcut
        have c0 := cell_of_cells HX.out 0
        have c1 := cell_of_cells HX.out 1
        have d0 := cell_of_cells HY.out 0
        have d1 := cell_of_cells HY.out 1
        have a0' : World.cell? _ (⟨w.heap.size, 0, none⟩ : Addr) = some (.int .i64 a.cycle) := cell_of_cells Hs5.out.ba 0
        have q0 : IntKind.i64.wrap (yb - xb) = yb - xb := IntWalk.i64_in _ (by omega)
        have q1 : IntKind.i64.wrap (yi - xi) = yi - xi := IntWalk.i64_in _ (by omega)
        have q2 : IntKind.i64.wrap ((k : Int) + 1) = (k : Int) + 1 := IntWalk.i64_in _ (by omega)
        clear a0 a3 b3 x0 x1 x2 y0 y1 y2 xb0 xb1 xi0 xi1 yb0 yb1 yi0 yi1
        have hlo : (linesAdj seq a.cycle a.lines b.lines k).length ≤ k := linesAdj_le _ _ _ _ _
        by_cases e0 : xb = yb
        · by_cases e1 : xi = yi
          · subst e0 e1
            have hsame : OneS w wc seq a b (.slice (some ⟨g, o, none⟩) n ca) (.slice (some ⟨g', o', none⟩) n cb) W0 v (k + 1) := by
              have h5 := Hs5.out
              refine ⟨h5.ba, h5.bb, h5.bw, h5.w0, ?_, h5.kp, h5.nw⟩
              have e : lineAdj seq a.cycle k ⟨xb, xi, xr⟩ ⟨xb, xi, yr⟩ = [] := by simp [lineAdj]
              rw [Hlin.out, e, List.append_nil]
              exact h5.row
            have Hsame := Lib.hid hsame; clear hsame; have Hlo := Lib.hid hlo; clear hlo
            go_wp2_with fail
            go_step3
            go_wp2
            exact jump_goto ⟨oneJ.mk W0 v (k + 1) rfl (by rw [Hn.out]; exact Hsame.out) (by rw [Hn.out]; omega), by rw [Hn.out]; simp [slotNat]; omega⟩
          · subst e0
            have q3 : xb - xb = 0 := Int.sub_self xb
            have e1' : (xi == yi) = false := beq_eq_false_iff_ne.2 e1
            have hne : lineAdj seq a.cycle k ⟨xb, xi, xr⟩ ⟨xb, yi, yr⟩ = [⟨seq, a.cycle, (k : Int) + 1, xb - xb, yi - xi, 0, 0, 0, 0⟩] := by
              unfold lineAdj; rw [if_neg (by first | exact fun h => e0 h.1 | exact fun h => e1 h.2)]
            have hlin2 := Hlin.out
            rw [hne] at hlin2
            clear hne
            obtain ⟨adv, cv, rfl, _, _⟩ := ownsRow_shape Hs5.out.row
            obtain ⟨m, hm⟩ : ∃ m, (linesAdj seq a.cycle a.lines b.lines k).length = m := ⟨_, rfl⟩
            have hrow5 := Hs5.out.row
            have h55 := Hs5.out
            rw [hm] at hlo hrow5 h55 ⊢
            have Hlin2 := Lib.hid hlin2; clear hlin2; have Hm := Lib.hid hm; clear hm; have Hrow5 := Lib.hid hrow5; clear hrow5; have H55 := Lib.hid h55; clear h55
            go_wp2_with (at_builtin; refine wpList_append_row rfl (.tmp 65) (.tmp 81) 63 rfl 0 69 i0 _ 9 72 Try.underlying63 Hi.out Hi0.out Hi1.out Hi2.out rfl (by decide) (.slice adv m cv) m _ rfl (Hrow5.out.alloc _) _ 1 _ rfl (Reads.litAt _ _ _ 9 1 _ (by first | rfl | simp) rfl) (by simp [Value.oneCell']) (by unfold maxLen; omega) (by omega) (Nat.zero_le _) ?_)
            intro v' w' hown hk' hf
            have happ : OneS w w' seq a b (.slice (some ⟨g, o, none⟩) n ca) (.slice (some ⟨g', o', none⟩) n cb) W0 v' (k + 1) :=
              (H55.out.keep (Keeps.alloc _ _)).app Hlin2.out (by rw [Hm.out]) (by first | rfl | simp [Adj.cells]) hown hk' (by simpa using hf)
            have Happ := Lib.hid happ
            clear happ hown hk' hf
            go_wp2_with fail
            go_step3
            go_wp2
            exact jump_goto ⟨oneJ.mk W0 v' (k + 1) rfl (by rw [Hn.out]; exact Happ.out) (by rw [Hn.out]; omega), by rw [Hn.out]; simp [slotNat]; omega⟩
        · have e0' : (xb == yb) = false := beq_eq_false_iff_ne.2 e0
          have hne : lineAdj seq a.cycle k ⟨xb, xi, xr⟩ ⟨yb, yi, yr⟩ = [⟨seq, a.cycle, (k : Int) + 1, yb - xb, yi - xi, 0, 0, 0, 0⟩] := by
            unfold lineAdj; rw [if_neg (by first | exact fun h => e0 h.1 | exact fun h => e1 h.2)]
          have hlin2 := Hlin.out
          rw [hne] at hlin2
          clear hne
          obtain ⟨adv, cv, rfl, _, _⟩ := ownsRow_shape Hs5.out.row
          obtain ⟨m, hm⟩ : ∃ m, (linesAdj seq a.cycle a.lines b.lines k).length = m := ⟨_, rfl⟩
          have hrow5 := Hs5.out.row
          have h55 := Hs5.out
          rw [hm] at hlo hrow5 h55 ⊢
          have Hlin2 := Lib.hid hlin2; clear hlin2; have Hm := Lib.hid hm; clear hm; have Hrow5 := Lib.hid hrow5; clear hrow5; have H55 := Lib.hid h55; clear h55
          go_wp2_with (at_builtin; refine wpList_append_row rfl (.tmp 65) (.tmp 81) 63 rfl 0 69 i0 _ 9 72 Try.underlying63 Hi.out Hi0.out Hi1.out Hi2.out rfl (by decide) (.slice adv m cv) m _ rfl (Hrow5.out.alloc _) _ 1 _ rfl (Reads.litAt _ _ _ 9 1 _ (by first | rfl | simp) rfl) (by simp [Value.oneCell']) (by unfold maxLen; omega) (by omega) (Nat.zero_le _) ?_)
          intro v' w' hown hk' hf
          have happ : OneS w w' seq a b (.slice (some ⟨g, o, none⟩) n ca) (.slice (some ⟨g', o', none⟩) n cb) W0 v' (k + 1) :=
            (H55.out.keep (Keeps.alloc _ _)).app Hlin2.out (by rw [Hm.out]) (by first | rfl | simp [Adj.cells]) hown hk' (by simpa using hf)
          have Happ := Lib.hid happ
          clear happ hown hk' hf
          go_wp2_with fail
          go_step3
          go_wp2
          exact jump_goto ⟨oneJ.mk W0 v' (k + 1) rfl (by rw [Hn.out]; exact Happ.out) (by rw [Hn.out]; omega), by rw [Hn.out]; simp [slotNat]; omega⟩
    · obtain rfl : k = n := by omega
      have c0 : W.cell? ⟨W0, 0, none⟩ = some (.int .i64 seq) := cell_of_cells hs.bw 0
      have c1 : W.cell? ⟨W0, 1, none⟩ = some (.int .i64 a.cycle) := cell_of_cells hs.bw 1
      have c2 : W.cell? ⟨W0, 2, none⟩ = some (.int .i64 0) := cell_of_cells hs.bw 2
      have c3 : W.cell? ⟨W0, 3, none⟩ = some (.int .i64 0) := cell_of_cells hs.bw 3
      have c4 : W.cell? ⟨W0, 4, none⟩ = some (.int .i64 0) := cell_of_cells hs.bw 4
      have c5 : W.cell? ⟨W0, 5, none⟩ = some (.int .i64 (b.total - a.total)) := cell_of_cells hs.bw 5
      have c6 : W.cell? ⟨W0, 6, none⟩ = some (.int .i64 (b.credit - a.credit)) := cell_of_cells hs.bw 6
      have c7 : W.cell? ⟨W0, 7, none⟩ = some (.int .i64 (b.min - a.min)) := cell_of_cells hs.bw 7
      have c8 : W.cell? ⟨W0, 8, none⟩ = some (.int .i64 (turnedI a.grace b.grace)) := cell_of_cells hs.bw 8
      have hws := wholeSame_iff a b
      have hend : oneAdj seq a b = linesAdj seq a.cycle a.lines b.lines k ++ if wholeSame a b then [] else [wholeAdj seq a b] := by unfold oneAdj; rw [hn]
      have hwa : wholeAdj seq a b = ⟨seq, a.cycle, 0, 0, 0, b.total - a.total, b.credit - a.credit, b.min - a.min, turnedI a.grace b.grace⟩ := rfl
      obtain ⟨dt, hdt⟩ : ∃ d, b.total - a.total = d := ⟨_, rfl⟩
      obtain ⟨dc, hdc⟩ : ∃ d, b.credit - a.credit = d := ⟨_, rfl⟩
      obtain ⟨dm, hdm⟩ : ∃ d, b.min - a.min = d := ⟨_, rfl⟩
      obtain ⟨dg, hdg⟩ : ∃ d, turnedI a.grace b.grace = d := ⟨_, rfl⟩
      rw [hdt, hdc, hdm, hdg] at hws hwa
      rw [hdt] at c5; rw [hdc] at c6; rw [hdm] at c7; rw [hdg] at c8
      rw [hwa] at hend
      have hlo : (linesAdj seq a.cycle a.lines b.lines k).length ≤ k := linesAdj_le _ _ _ _ _
      have hrow := hs.row
      obtain ⟨m, hm⟩ : ∃ m, (linesAdj seq a.cycle a.lines b.lines k).length = m := ⟨_, rfl⟩
      obtain ⟨adv, cv, rfl, _, _⟩ := ownsRow_shape hrow
      rw [hm] at hlo hrow hs ⊢
      clear w0 w1 w2 hdt hdc hdm hdg hwa
      by_cases z1 : dt = 0
      · by_cases z2 : dc = 0
        · by_cases z3 : dm = 0
          · by_cases z4 : dg = 0
            · subst z1 z2 z3 z4
              rw [if_pos (hws.2 ⟨rfl, rfl, rfl, rfl⟩), List.append_nil] at hend
              have Hs := Lib.hid hs; clear hs; have Hra := Lib.hid hra; clear hra; have Hrb := Lib.hid hrb; clear hrb; have Hn := Lib.hid hn; clear hn; have Hws := Lib.hid hws; clear hws; have Hend := Lib.hid hend; clear hend; have Hm := Lib.hid hm; clear hm; have Hrow := Lib.hid hrow; clear hrow
              go_wp2_with fail
              refine jump_ret ?_
              go_ret
              exact ⟨_, rfl, by rw [Hend.out, Hm.out]; exact Hrow.out, Hs.out.kp, fun g hg => by have := Hs.out.nw g hg; have := Hs.out.w0; omega⟩
            · subst z1 z2 z3
              rw [if_neg (fun h => z4 (hws.1 h).2.2.2)] at hend
              have Hs := Lib.hid hs; clear hs; have Hra := Lib.hid hra; clear hra; have Hrb := Lib.hid hrb; clear hrb; have Hn := Lib.hid hn; clear hn; have Hws := Lib.hid hws; clear hws; have Hend := Lib.hid hend; clear hend; have Hm := Lib.hid hm; clear hm; have Hrow := Lib.hid hrow; clear hrow
              go_wp2_with (at_builtin; refine wpList_append_row rfl (.tmp 89) (.tmp 91) 63 rfl 0 69 i0 _ 9 72 Try.underlying63 Hi.out Hi0.out Hi1.out Hi2.out rfl (by decide) (.slice adv m cv) m _ rfl (Hrow.out.alloc _) _ 1 _ rfl (Reads.litAt _ _ _ 9 1 _ (by first | rfl | simp) rfl) (by simp [Value.oneCell']) (by unfold maxLen; omega) (by omega) (Nat.zero_le _) ?_)
              intro v' w' hown hk' hf
              have hz : OnePost w seq a b (.returned v') w' := by
                have hn1 : ∀ g, (Value.slice adv m cv).ownBlock = some g → w.heap.size ≤ g := fun g hg => by have := Hs.out.nw g hg; have := Hs.out.w0; omega
                refine ⟨v', rfl, ?_, (Hs.out.kp.none_trans (Keeps.alloc _ _)).trans (hk'.mono fun i _ e => .inr (hn1 i e)), fun g hg => ?_⟩
                · rw [Hend.out]
                  simp only [List.length_append, List.length_singleton, List.flatMap_append, List.flatMap_cons, List.flatMap_nil, List.append_nil, Hm.out]
                  exact hown
                · rcases hf with e | ⟨g', e, h'⟩
                  · exact hn1 g (by rw [← e]; exact hg)
                  · rw [e] at hg; simp only [Option.some.injEq] at hg; have := Hs.out.kp.size; try simp at h'
                    omega
              have Hz := Lib.hid hz
              clear hz hown hk' hf
              go_wp2_with fail
              refine jump_ret ?_
              go_ret
              exact Hz.out
          · subst z1 z2
            rw [if_neg (fun h => z3 (hws.1 h).2.2.1)] at hend
            have Hs := Lib.hid hs; clear hs; have Hra := Lib.hid hra; clear hra; have Hrb := Lib.hid hrb; clear hrb; have Hn := Lib.hid hn; clear hn; have Hws := Lib.hid hws; clear hws; have Hend := Lib.hid hend; clear hend; have Hm := Lib.hid hm; clear hm; have Hrow := Lib.hid hrow; clear hrow
            go_wp2_with (at_builtin; refine wpList_append_row rfl (.tmp 89) (.tmp 91) 63 rfl 0 69 i0 _ 9 72 Try.underlying63 Hi.out Hi0.out Hi1.out Hi2.out rfl (by decide) (.slice adv m cv) m _ rfl (Hrow.out.alloc _) _ 1 _ rfl (Reads.litAt _ _ _ 9 1 _ (by first | rfl | simp) rfl) (by simp [Value.oneCell']) (by unfold maxLen; omega) (by omega) (Nat.zero_le _) ?_)
            intro v' w' hown hk' hf
            have hz : OnePost w seq a b (.returned v') w' := by
              have hn1 : ∀ g, (Value.slice adv m cv).ownBlock = some g → w.heap.size ≤ g := fun g hg => by have := Hs.out.nw g hg; have := Hs.out.w0; omega
              refine ⟨v', rfl, ?_, (Hs.out.kp.none_trans (Keeps.alloc _ _)).trans (hk'.mono fun i _ e => .inr (hn1 i e)), fun g hg => ?_⟩
              · rw [Hend.out]
                simp only [List.length_append, List.length_singleton, List.flatMap_append, List.flatMap_cons, List.flatMap_nil, List.append_nil, Hm.out]
                exact hown
              · rcases hf with e | ⟨g', e, h'⟩
                · exact hn1 g (by rw [← e]; exact hg)
                · rw [e] at hg; simp only [Option.some.injEq] at hg; have := Hs.out.kp.size; try simp at h'
                  omega
            have Hz := Lib.hid hz
            clear hz hown hk' hf
            go_wp2_with fail
            refine jump_ret ?_
            go_ret
            exact Hz.out
        · subst z1
          rw [if_neg (fun h => z2 (hws.1 h).2.1)] at hend
          have Hs := Lib.hid hs; clear hs; have Hra := Lib.hid hra; clear hra; have Hrb := Lib.hid hrb; clear hrb; have Hn := Lib.hid hn; clear hn; have Hws := Lib.hid hws; clear hws; have Hend := Lib.hid hend; clear hend; have Hm := Lib.hid hm; clear hm; have Hrow := Lib.hid hrow; clear hrow
          go_wp2_with (at_builtin; refine wpList_append_row rfl (.tmp 89) (.tmp 91) 63 rfl 0 69 i0 _ 9 72 Try.underlying63 Hi.out Hi0.out Hi1.out Hi2.out rfl (by decide) (.slice adv m cv) m _ rfl (Hrow.out.alloc _) _ 1 _ rfl (Reads.litAt _ _ _ 9 1 _ (by first | rfl | simp) rfl) (by simp [Value.oneCell']) (by unfold maxLen; omega) (by omega) (Nat.zero_le _) ?_)
          intro v' w' hown hk' hf
          have hz : OnePost w seq a b (.returned v') w' := by
            have hn1 : ∀ g, (Value.slice adv m cv).ownBlock = some g → w.heap.size ≤ g := fun g hg => by have := Hs.out.nw g hg; have := Hs.out.w0; omega
            refine ⟨v', rfl, ?_, (Hs.out.kp.none_trans (Keeps.alloc _ _)).trans (hk'.mono fun i _ e => .inr (hn1 i e)), fun g hg => ?_⟩
            · rw [Hend.out]
              simp only [List.length_append, List.length_singleton, List.flatMap_append, List.flatMap_cons, List.flatMap_nil, List.append_nil, Hm.out]
              exact hown
            · rcases hf with e | ⟨g', e, h'⟩
              · exact hn1 g (by rw [← e]; exact hg)
              · rw [e] at hg; simp only [Option.some.injEq] at hg; have := Hs.out.kp.size; try simp at h'
                omega
          have Hz := Lib.hid hz
          clear hz hown hk' hf
          go_wp2_with fail
          refine jump_ret ?_
          go_ret
          exact Hz.out
      · rw [if_neg (fun h => z1 (hws.1 h).1)] at hend
        have Hs := Lib.hid hs; clear hs; have Hra := Lib.hid hra; clear hra; have Hrb := Lib.hid hrb; clear hrb; have Hn := Lib.hid hn; clear hn; have Hws := Lib.hid hws; clear hws; have Hend := Lib.hid hend; clear hend; have Hm := Lib.hid hm; clear hm; have Hrow := Lib.hid hrow; clear hrow
        go_wp2_with (at_builtin; refine wpList_append_row rfl (.tmp 89) (.tmp 91) 63 rfl 0 69 i0 _ 9 72 Try.underlying63 Hi.out Hi0.out Hi1.out Hi2.out rfl (by decide) (.slice adv m cv) m _ rfl (Hrow.out.alloc _) _ 1 _ rfl (Reads.litAt _ _ _ 9 1 _ (by first | rfl | simp) rfl) (by simp [Value.oneCell']) (by unfold maxLen; omega) (by omega) (Nat.zero_le _) ?_)
        intro v' w' hown hk' hf
        have hz : OnePost w seq a b (.returned v') w' := by
          have hn1 : ∀ g, (Value.slice adv m cv).ownBlock = some g → w.heap.size ≤ g := fun g hg => by have := Hs.out.nw g hg; have := Hs.out.w0; omega
          refine ⟨v', rfl, ?_, (Hs.out.kp.none_trans (Keeps.alloc _ _)).trans (hk'.mono fun i _ e => .inr (hn1 i e)), fun g hg => ?_⟩
          · rw [Hend.out]
            simp only [List.length_append, List.length_singleton, List.flatMap_append, List.flatMap_cons, List.flatMap_nil, List.append_nil, Hm.out]
            exact hown
          · rcases hf with e | ⟨g', e, h'⟩
            · exact hn1 g (by rw [← e]; exact hg)
            · rw [e] at hg; simp only [Option.some.injEq] at hg; have := Hs.out.kp.size; try simp at h'
              omega
        have Hz := Lib.hid hz
        clear hz hown hk' hf
        go_wp2_with fail
        refine jump_ret ?_
        go_ret
        exact Hz.out
  · intro hfirst
    have Hfirst := Lib.hid hfirst; clear hfirst
    go_upto_region 3 with (fail)
    go_cut [9] (fun s9 wx => ∃ W0, s9 = (.pointer (some ⟨W0, 0, none⟩)) ∧ Hid (OneS w wx seq a b va vb W0 (.slice none 0 0) 0))
    case first =>
      refine wp_region_mixw (onS w a b) (.take 0 (.take 1 (.take 2 (.take 3 (.take 4 (.take 5 (.take 6 (.take 7 (.take 8 (.take 9 (.take 10 (.take 11 (.take 12 (.take 13 (.take 14 (.take 15 (.take 16 (.take 17 (.take 18 (.take 19 (.take 20 (.take 21 (.take 22 (.take 23 (.move 24 (.move 25 .done)))))))))))))))))))))))))) (by kernel_rfl) (by kernel_rfl) ?_ ?_
      · refine ⟨?_, ?_, ?_, ?_, ?_, ?_, ?_, ?_, ?_⟩ <;> go_simp
      intro w3 hs3 hk3
      have HS3 := Lib.hid hs3
      unfold onS at hs3
      have Hk3 := Lib.hid hk3; clear hk3
      repeat (first
        | (refine mix_skip rfl (by rfl) ?_; try simp only [Act.put, List.setIfInBounds_toArray, List.set_cons_zero, List.set_cons_succ])
        | (refine mix_skipm rfl (by rfl) ?_; try simp only [Act.put, List.setIfInBounds_toArray, List.set_cons_zero, List.set_cons_succ])
        | (refine mix_take (v := ?_) rfl (by rfl) ?_ ?_; rotate_left; (· intro w' hSw; unfold onS at hSw; go_simp; (try with_reducible rfl)); rotate_right; try simp only [Act.put, List.setIfInBounds_toArray, List.set_cons_zero, List.set_cons_succ]))
      refine mix_pure (v := ?_) rfl (by rfl) ?_ ?_ ?_ ?_ ?_
      rotate_left 3
      · intro w' hSw; unfold onS at hSw; go_simp; (first | done | (constructor <;> with_reducible rfl) | with_reducible rfl)
      · intro w' hSw; exact (adjTurned_any _ _ _)
      rotate_right 3
      try simp only [Act.put, List.setIfInBounds_toArray, List.set_cons_zero, List.set_cons_succ]
      repeat (first
        | (refine mix_skip rfl (by rfl) ?_; try simp only [Act.put, List.setIfInBounds_toArray, List.set_cons_zero, List.set_cons_succ])
        | (refine mix_skipm rfl (by rfl) ?_; try simp only [Act.put, List.setIfInBounds_toArray, List.set_cons_zero, List.set_cons_succ])
        | (refine mix_take (v := ?_) rfl (by rfl) ?_ ?_; rotate_left; (· intro w' hSw; unfold onS at hSw; go_simp; (try with_reducible rfl)); rotate_right; try simp only [Act.put, List.setIfInBounds_toArray, List.set_cons_zero, List.set_cons_succ]))
      refine mix_move rfl (fun K hK => ?_)
      go_simp
      refine hK.out _ _ (by exact HS3.out.keep (Keeps.alloc _ _)) ?_
      clear hK K
      try simp only [Act.put, List.setIfInBounds_toArray, List.set_cons_zero, List.set_cons_succ]
      refine mix_move rfl (fun K hK => ?_)
      go_simp
      refine hK.out _ _ (by exact HS3.out.keep (Keeps.alloc _ _)) ?_
      clear hK K
      try simp only [Act.put, List.setIfInBounds_toArray, List.set_cons_zero, List.set_cons_succ]
      refine mix_done ?_
      go_wp2_with fail
      go_meet
      refine ⟨_, rfl, Lib.hid ⟨box_alloc (box_old Hba2.out Hk3.out (by simp)) _, box_alloc (box_old Hbb.out Hk3.out (by simp)) _, heap_alloc_new _ _, ?_, World.ownsRow_nil _ _ _ _, ?_, by simp [Value.ownBlock]⟩⟩
      · have := Hk3.out.size; simp at this; omega
      · exact (Keeps.none_trans (by (repeat (first | exact Keeps.refl _ _ | exact Keeps.alloc _ _ | exact Keeps.drew _ | exact Keeps.drewN _ _ | refine Keeps.trans_drew ?_ | refine Keeps.trans_drewN ?_ | refine Keeps.trans_alloc ?_))) Hk3.out).none_trans (Keeps.alloc _ _)
    case rest =>
      obtain ⟨W0, rfl, hs⟩ := hcut
      go_wp2_with fail
      go_step3
      rename_i hK
      refine hK _ _ ?_
      refine Hfirst.out _ _ ?_
      exact (oneJ.mk W0 (.slice none 0 0) 0 rfl hs.out (Nat.zero_le _))
end Go.Proofs.Ythokcmbgamanbaa
