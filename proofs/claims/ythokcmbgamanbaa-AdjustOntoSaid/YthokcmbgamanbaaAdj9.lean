/- The walks of the adjust layer: Between. -/
import Derived.Test.YthokcmbgamanbaaAdj8
namespace Go.Proofs.Ythokcmbgamanbaa
open Go.RowKit
def betRec (seq : Int) : List SV → List SV → List Adj → Int × List Adj
  | a :: A, b :: B, acc => if a.s.numbersB && b.s.numbersB then betRec seq A B (acc ++ oneAdj seq a.s b.s) else (5, [])
  | _, _, acc => (0, acc)
/-- What has become of statements, or why it cannot be told. -/
def Betw (seq : Int) (L M : List SV) (r : Int × List Adj) : Prop := ((L.length = M.length ∧ Alike L M L.length) ∧ r = betRec seq L M []) ∨ (¬ (L.length = M.length ∧ Alike L M L.length) ∧ r = (1, []))
def BetPost (w : World) (r : Int × List Adj) (e : Ending) (w' : World) : Prop :=
  ∃ v, e = .returned (.tuple #[v, .int .i64 r.1]) ∧ w'.ownsRow 0 69 9 v r.2.length (r.2.flatMap Adj.cells) ∧ Fresh w w' v
/-- Statements whose lines can be read. -/
def SVs (w : World) (L : List SV) : Prop := ∀ x ∈ L, Reads w 3 x.v x.s.lines.length (x.s.lines.flatMap Ln.cells) ∧ x.s.lines.length ≤ 1000
theorem SVs.keep {w w' : World} {L : List SV} (h : SVs w L) (hk : Keeps (fun _ => False) w w') : SVs w' L := fun x hx => ⟨(h x hx).1.keeps hk (by simp), (h x hx).2⟩
theorem oneAdj_le (seq : Int) (a b : Stm) : (oneAdj seq a b).length ≤ a.lines.length + 1 := by
  unfold oneAdj
  have := linesAdj_le seq a.cycle a.lines b.lines a.lines.length
  simp only [List.length_append]
  split <;> simp <;> omega
theorem adjNumbers_at (s : Stm) (v : Value) (w : World) {r : Bool} (hr : Reads w 3 v s.lines.length (s.lines.flatMap Ln.cells)) (hl : s.lines.length ≤ 1000) (he : s.numbersB = r) :
    Calls Try.prog 51 #[.agg #[.int .i64 s.cycle, .int .i64 s.fr, .int .i64 s.to, .int .i64 s.due, v, .int .i64 s.total, .int .i64 s.credit, .int .i64 s.min, .bool s.grace]] w fun e w' => e = .returned (.bool r) ∧ Keeps (fun _ => False) w w' := by
  have hr' := hr
  obtain ⟨ad, c, rfl, _⟩ := hr'
  subst he
  exact adjNumbers_any s ad c w hr (by omega)
theorem adjOne_at (seq : Int) (a b : Stm) (va vb : Value) (w : World) (hra : Reads w 3 va a.lines.length (a.lines.flatMap Ln.cells)) (hrb : Reads w 3 vb b.lines.length (b.lines.flatMap Ln.cells)) (hab : a.lines.length = b.lines.length) (hl : a.lines.length ≤ 1000)
    (hna : a.numbersB = true) (hnb : b.numbersB = true) :
    Calls Try.prog 52 #[.int .i64 seq, .agg #[.int .i64 a.cycle, .int .i64 a.fr, .int .i64 a.to, .int .i64 a.due, va, .int .i64 a.total, .int .i64 a.credit, .int .i64 a.min, .bool a.grace], .agg #[.int .i64 b.cycle, .int .i64 b.fr, .int .i64 b.to, .int .i64 b.due, vb, .int .i64 b.total, .int .i64 b.credit, .int .i64 b.min, .bool b.grace]] w (OnePost w seq a b) :=
  adjOne_any seq a b va vb w hra hrb hab (by omega) hna hnb
theorem drop_cons {α : Type} {L : List α} {k : Nat} {x : α} (h : L[k]? = some x) : L.drop k = x :: L.drop (k + 1) := by
  have hk := lt_of_get h
  rw [List.drop_eq_getElem_cons hk]
  rw [List.getElem?_eq_getElem hk] at h
  rw [Option.some.inj h]
def bwS (A g o k : Nat) (x y : Stm) (vx vy : Value) (w' : World) : Prop :=
  w'.cell? ⟨A, 0, none⟩ = some (.int .i64 x.cycle) ∧ w'.cell? ⟨A, 1, none⟩ = some (.int .i64 x.fr) ∧ w'.cell? ⟨A, 2, none⟩ = some (.int .i64 x.to) ∧ w'.cell? ⟨A, 3, none⟩ = some (.int .i64 x.due) ∧ w'.cell? ⟨A, 4, none⟩ = some (vx) ∧ w'.cell? ⟨A, 5, none⟩ = some (.int .i64 x.total) ∧ w'.cell? ⟨A, 6, none⟩ = some (.int .i64 x.credit) ∧ w'.cell? ⟨A, 7, none⟩ = some (.int .i64 x.min) ∧ w'.cell? ⟨A, 8, none⟩ = some (.bool x.grace) ∧ w'.cell? ⟨g, o + k * 9, none⟩ = some (.int .i64 y.cycle) ∧ w'.cell? ⟨g, o + k * 9 + 1, none⟩ = some (.int .i64 y.fr) ∧ w'.cell? ⟨g, o + k * 9 + 2, none⟩ = some (.int .i64 y.to) ∧ w'.cell? ⟨g, o + k * 9 + 3, none⟩ = some (.int .i64 y.due) ∧ w'.cell? ⟨g, o + k * 9 + 4, none⟩ = some (vy) ∧ w'.cell? ⟨g, o + k * 9 + 5, none⟩ = some (.int .i64 y.total) ∧ w'.cell? ⟨g, o + k * 9 + 6, none⟩ = some (.int .i64 y.credit) ∧ w'.cell? ⟨g, o + k * 9 + 7, none⟩ = some (.int .i64 y.min) ∧ w'.cell? ⟨g, o + k * 9 + 8, none⟩ = some (.bool y.grace)
theorem bwS.keep {A g o k : Nat} {x y : Stm} {vx vy : Value} {W W' : World} (h : bwS A g o k x y vx vy W) (hk : Keeps (fun _ => False) W W') : bwS A g o k x y vx vy W' := by
  obtain ⟨h0, h1, h2, h3, h4, h5, h6, h7, h8, h9, h10, h11, h12, h13, h14, h15, h16, h17⟩ := h
  exact ⟨(hk.cell (cell_lt h0) (by simp)).trans h0, (hk.cell (cell_lt h1) (by simp)).trans h1, (hk.cell (cell_lt h2) (by simp)).trans h2, (hk.cell (cell_lt h3) (by simp)).trans h3, (hk.cell (cell_lt h4) (by simp)).trans h4, (hk.cell (cell_lt h5) (by simp)).trans h5, (hk.cell (cell_lt h6) (by simp)).trans h6, (hk.cell (cell_lt h7) (by simp)).trans h7, (hk.cell (cell_lt h8) (by simp)).trans h8, (hk.cell (cell_lt h9) (by simp)).trans h9, (hk.cell (cell_lt h10) (by simp)).trans h10, (hk.cell (cell_lt h11) (by simp)).trans h11, (hk.cell (cell_lt h12) (by simp)).trans h12, (hk.cell (cell_lt h13) (by simp)).trans h13, (hk.cell (cell_lt h14) (by simp)).trans h14, (hk.cell (cell_lt h15) (by simp)).trans h15, (hk.cell (cell_lt h16) (by simp)).trans h16, (hk.cell (cell_lt h17) (by simp)).trans h17⟩
theorem bwS.keep2 {A g o k : Nat} {x y : Stm} {vx vy : Value} {W W' : World} {T : Nat → Prop} (h : bwS A g o k x y vx vy W) (hk : Keeps T W W') (hA : ¬ T A) (hg : ¬ T g) : bwS A g o k x y vx vy W' := by
  obtain ⟨h0, h1, h2, h3, h4, h5, h6, h7, h8, h9, h10, h11, h12, h13, h14, h15, h16, h17⟩ := h
  exact ⟨(hk.cell (cell_lt h0) hA).trans h0, (hk.cell (cell_lt h1) hA).trans h1, (hk.cell (cell_lt h2) hA).trans h2, (hk.cell (cell_lt h3) hA).trans h3, (hk.cell (cell_lt h4) hA).trans h4, (hk.cell (cell_lt h5) hA).trans h5, (hk.cell (cell_lt h6) hA).trans h6, (hk.cell (cell_lt h7) hA).trans h7, (hk.cell (cell_lt h8) hA).trans h8, (hk.cell (cell_lt h9) hg).trans h9, (hk.cell (cell_lt h10) hg).trans h10, (hk.cell (cell_lt h11) hg).trans h11, (hk.cell (cell_lt h12) hg).trans h12, (hk.cell (cell_lt h13) hg).trans h13, (hk.cell (cell_lt h14) hg).trans h14, (hk.cell (cell_lt h15) hg).trans h15, (hk.cell (cell_lt h16) hg).trans h16, (hk.cell (cell_lt h17) hg).trans h17⟩
theorem bw_cells {g o k : Nat} {y : Stm} {v : Value} {wr : World} (y0 : wr.cell? ⟨g, o + k * 9, none⟩ = some (.int .i64 y.cycle)) (y1 : wr.cell? ⟨g, o + k * 9 + 1, none⟩ = some (.int .i64 y.fr)) (y2 : wr.cell? ⟨g, o + k * 9 + 2, none⟩ = some (.int .i64 y.to)) (y3 : wr.cell? ⟨g, o + k * 9 + 3, none⟩ = some (.int .i64 y.due)) (y4 : wr.cell? ⟨g, o + k * 9 + 4, none⟩ = some (v)) (y5 : wr.cell? ⟨g, o + k * 9 + 5, none⟩ = some (.int .i64 y.total)) (y6 : wr.cell? ⟨g, o + k * 9 + 6, none⟩ = some (.int .i64 y.credit)) (y7 : wr.cell? ⟨g, o + k * 9 + 7, none⟩ = some (.int .i64 y.min)) (y8 : wr.cell? ⟨g, o + k * 9 + 8, none⟩ = some (.bool y.grace)) :
    ∀ w', Keeps (fun _ => False) wr w' → w'.cell? ⟨g, o + k * 9, none⟩ = some (.int .i64 y.cycle) ∧ w'.cell? ⟨g, o + k * 9 + 1, none⟩ = some (.int .i64 y.fr) ∧ w'.cell? ⟨g, o + k * 9 + 2, none⟩ = some (.int .i64 y.to) ∧ w'.cell? ⟨g, o + k * 9 + 3, none⟩ = some (.int .i64 y.due) ∧ w'.cell? ⟨g, o + k * 9 + 4, none⟩ = some (v) ∧ w'.cell? ⟨g, o + k * 9 + 5, none⟩ = some (.int .i64 y.total) ∧ w'.cell? ⟨g, o + k * 9 + 6, none⟩ = some (.int .i64 y.credit) ∧ w'.cell? ⟨g, o + k * 9 + 7, none⟩ = some (.int .i64 y.min) ∧ w'.cell? ⟨g, o + k * 9 + 8, none⟩ = some (.bool y.grace) := fun w' hk => ⟨(hk.cell (cell_lt y0) (by simp)).trans y0, (hk.cell (cell_lt y1) (by simp)).trans y1, (hk.cell (cell_lt y2) (by simp)).trans y2, (hk.cell (cell_lt y3) (by simp)).trans y3, (hk.cell (cell_lt y4) (by simp)).trans y4, (hk.cell (cell_lt y5) (by simp)).trans y5, (hk.cell (cell_lt y6) (by simp)).trans y6, (hk.cell (cell_lt y7) (by simp)).trans y7, (hk.cell (cell_lt y8) (by simp)).trans y8⟩
theorem own_lt {w : World} {base : Nat} {e : TypeId} {size : Nat} {v : Value} {n : Nat} {xs : List Value} (h : w.ownsRow base e size v n xs) {g : Nat} (hv : v.ownBlock = some g) : g < w.heap.size := by
  rcases h.2 with ⟨rfl, _⟩ | ⟨g', cap, cur, rfl, _, hh, _⟩
  · simp [Value.ownBlock] at hv
  · simp only [Value.ownBlock, Option.some.injEq] at hv; subst hv; exact lt_of_block hh
set_option maxRecDepth 100000 in
set_option maxHeartbeats 3200000 in
theorem adjBetween_any (seq : Int) (ad1 ad2 : Option Addr) (c1 c2 : Nat) (L M : List SV) (w : World) (h1 : Reads w 9 (.slice ad1 L.length c1) L.length (L.flatMap SV.cells)) (h2 : Reads w 9 (.slice ad2 M.length c2) M.length (M.flatMap SV.cells))
    (hl : L.length ≤ 1000) (hm : M.length ≤ 1000) (hsl : SVs w L) (hsm : SVs w M) (r : Int × List Adj) (hB : Betw seq L M r) :
    Calls Try.prog 27 #[.int .i64 seq, .slice ad1 L.length c1, .slice ad2 M.length c2] w (BetPost w r) := by
  obtain ⟨i0, hi, hi0, hi1, hi2⟩ := info_parts info_tAdjust
  obtain ⟨n, hn⟩ : ∃ n, L.length = n := ⟨_, rfl⟩
  obtain ⟨m, hm'⟩ : ∃ m, M.length = m := ⟨_, rfl⟩
  rw [hn] at hl
  rw [hm'] at hm
  have heq := fun W (hW : Keeps (fun _ => False) w W) => equalStm_any ad1 ad2 c1 c2 L M W (h1.keeps hW (by simp)) (h2.keeps hW (by simp)) (by omega) (by omega)
  rw [hn] at h1
  rw [hm'] at h2
  rw [hn, hm'] at heq
  unfold Betw at hB
  rw [hn, hm'] at hB
  rw [hn, hm']
  rcases hB with ⟨⟨hnm, hal⟩, hb⟩ | ⟨hal, hb⟩
  · subst hnm
    have H1 := Lib.hid h1; clear h1; have H2 := Lib.hid h2; clear h2; have Hn := Lib.hid hn; clear hn; have Hm' := Lib.hid hm'; clear hm'; have Hsl := Lib.hid hsl; clear hsl; have Hsm := Lib.hid hsm; clear hsm; have Heq := Lib.hid heq; clear heq; have Hal := Lib.hid hal; clear hal; have Hi := Lib.hid hi; clear hi; have Hi0 := Lib.hid hi0; clear hi0; have Hi1 := Lib.hid hi1; clear hi1; have Hi2 := Lib.hid hi2; clear hi2
    go_enter Try.func27, Try.ntmps27
    go_wp2_with fail
    refine (Heq.out _ (Keeps.refl _ _)).mono ?_
    rintro e w1 ⟨b, rfl, hr, hk1⟩
    obtain rfl : b = true := hr.2 ⟨(by first | trivial | rfl), Hal.out⟩
    clear hr
    have Hk1 := Lib.hid hk1; clear hk1
    go_wp2_with fail
    go_loopw [8, 17] (fun v c wr => ∃ (k : Nat) (acc : List Adj) (adv : Option Addr) (cv : Nat), k ≤ n ∧ c = .int .i64 (k : Nat) ∧ v = .slice adv acc.length cv ∧ wr.ownsRow 0 69 9 (.slice adv acc.length cv) acc.length (acc.flatMap Adj.cells) ∧ Fresh w wr (.slice adv acc.length cv) ∧ acc.length ≤ k * 1001 ∧ betRec seq L M [] = betRec seq (L.drop k) (M.drop k) acc) (fun _ c _ => n - (intOf c).toNat)
    case atStart => exact ⟨0, [], none, 0, Nat.zero_le _, rfl, rfl, World.ownsRow_nil _ _ _ _, ⟨Hk1.out, by simp [Value.ownBlock]⟩, Nat.zero_le _, rfl⟩
    case round =>
      obtain ⟨k, acc, adv, cv, hkn, rfl, rfl, hrow, hfr, hac, hbet⟩ := hrel
      obtain ⟨q, hq⟩ : ∃ q, acc.length = q := ⟨_, rfl⟩
      rw [hq] at hrow hfr hac ⊢
      by_cases hlt : k < n
      · obtain ⟨x, hx⟩ := get_some (L := L) (k := k) (by rw [Hn.out]; exact hlt)
        obtain ⟨y, hy⟩ := get_some (L := M) (k := k) (by rw [Hm'.out]; exact hlt)
        obtain ⟨g, o, c, he, hc⟩ := (H1.out.keeps hfr.1 (by simp)).elem SV.cells_length hx (by decide)
        obtain ⟨g', o', c', he', hc'⟩ := (H2.out.keeps hfr.1 (by simp)).elem SV.cells_length hy (by decide)
        simp only [Value.slice.injEq, true_and] at he he'
        obtain ⟨rfl, rfl⟩ := he
        obtain ⟨rfl, rfl⟩ := he'
        have x0 : wr.cell? ⟨g, o + k * 9, none⟩ = some (.int .i64 x.s.cycle) := hc 0 (by decide)
        have x1 : wr.cell? ⟨g, o + k * 9 + 1, none⟩ = some (.int .i64 x.s.fr) := hc 1 (by decide)
        have x2 : wr.cell? ⟨g, o + k * 9 + 2, none⟩ = some (.int .i64 x.s.to) := hc 2 (by decide)
        have x3 : wr.cell? ⟨g, o + k * 9 + 3, none⟩ = some (.int .i64 x.s.due) := hc 3 (by decide)
        have x4 : wr.cell? ⟨g, o + k * 9 + 4, none⟩ = some x.v := hc 4 (by decide)
        have x5 : wr.cell? ⟨g, o + k * 9 + 5, none⟩ = some (.int .i64 x.s.total) := hc 5 (by decide)
        have x6 : wr.cell? ⟨g, o + k * 9 + 6, none⟩ = some (.int .i64 x.s.credit) := hc 6 (by decide)
        have x7 : wr.cell? ⟨g, o + k * 9 + 7, none⟩ = some (.int .i64 x.s.min) := hc 7 (by decide)
        have x8 : wr.cell? ⟨g, o + k * 9 + 8, none⟩ = some (.bool x.s.grace) := hc 8 (by decide)
        have y0 : wr.cell? ⟨g', o' + k * 9, none⟩ = some (.int .i64 y.s.cycle) := hc' 0 (by decide)
        have y1 : wr.cell? ⟨g', o' + k * 9 + 1, none⟩ = some (.int .i64 y.s.fr) := hc' 1 (by decide)
        have y2 : wr.cell? ⟨g', o' + k * 9 + 2, none⟩ = some (.int .i64 y.s.to) := hc' 2 (by decide)
        have y3 : wr.cell? ⟨g', o' + k * 9 + 3, none⟩ = some (.int .i64 y.s.due) := hc' 3 (by decide)
        have y4 : wr.cell? ⟨g', o' + k * 9 + 4, none⟩ = some y.v := hc' 4 (by decide)
        have y5 : wr.cell? ⟨g', o' + k * 9 + 5, none⟩ = some (.int .i64 y.s.total) := hc' 5 (by decide)
        have y6 : wr.cell? ⟨g', o' + k * 9 + 6, none⟩ = some (.int .i64 y.s.credit) := hc' 6 (by decide)
        have y7 : wr.cell? ⟨g', o' + k * 9 + 7, none⟩ = some (.int .i64 y.s.min) := hc' 7 (by decide)
        have y8 : wr.cell? ⟨g', o' + k * 9 + 8, none⟩ = some (.bool y.s.grace) := hc' 8 (by decide)
        have hgl := cell_lt x0
        have hgl' := cell_lt y0
        clear hc hc'
        have hsx := Hsl.out x (List.mem_of_getElem? hx)
        have hsy := Hsm.out y (List.mem_of_getElem? hy)
        have hab := Hal.out k x y hlt hx hy
        have hdL : L.drop k = x :: L.drop (k + 1) := drop_cons hx
        have hdM : M.drop k = y :: M.drop (k + 1) := drop_cons hy
        rw [hdL, hdM] at hbet
        have hstep : betRec seq (x :: L.drop (k + 1)) (y :: M.drop (k + 1)) acc = if x.s.numbersB && y.s.numbersB then betRec seq (L.drop (k + 1)) (M.drop (k + 1)) (acc ++ oneAdj seq x.s y.s) else (5, []) := rfl
        rw [hstep] at hbet
        have hRx := (hsx.1.keeps hfr.1 (by simp))
        have hRy := (hsy.1.keeps hfr.1 (by simp))
        have hlx := hsx.2
        have hly := hsy.2
        have hxy : x.s.lines.length = y.s.lines.length := by
          simp only [alikeB, Bool.and_eq_true, decide_eq_true_eq] at hab; exact hab.2
        clear hsx hsy hab hstep hdL hdM
        have hkI : (k : Int) < (n : Int) := by omega
        obtain ⟨xs, adx, cx⟩ := x
        obtain ⟨ys, ady, cy⟩ := y
        simp only [SV.v] at x4 y4 hRx hRy hbet hlx hly hxy
        obtain ⟨lx, hlx'⟩ : ∃ l, xs.lines.length = l := ⟨_, rfl⟩
        rcases nx : xs.numbersB with _ | _
        · rw [nx] at hbet
          have hbet' : r = (5, []) := by rw [hb]; exact hbet
          subst hbet'
          have Hx := Lib.hid hx; clear hx; have Hy := Lib.hid hy; clear hy; have Hrow := Lib.hid hrow; clear hrow; have Hfr := Lib.hid hfr; clear hfr; have Hq := Lib.hid hq; clear hq; have Hbet := Lib.hid hbet; clear hbet; have HRx := Lib.hid hRx; clear hRx; have HRy := Lib.hid hRy; clear hRy; have Nx := Lib.hid nx; clear nx; have Hxy := Lib.hid hxy; clear hxy; have Hb := Lib.hid hb; clear hb; have Hlx' := Lib.hid hlx'; clear hlx'
          go_wp2_with (go_at_call 51; ((with_reducible refine (adjNumbers_at xs _ _ (HRx.out.keeps (S := fun _ => False) (by (repeat (first | exact Keeps.refl _ _ | exact Keeps.alloc _ _ | exact Keeps.drew _ | exact Keeps.drewN _ _ | refine Keeps.trans_drew ?_ | refine Keeps.trans_drewN ?_ | refine Keeps.trans_alloc ?_))) (by simp)) hlx Nx.out).mono ?_); rintro e w3 ⟨rfl, hk3⟩; have Hk3 := Lib.hid hk3; clear hk3))
          go_ret2
          exact ⟨_, rfl, World.ownsRow_nil _ _ _ _, (Hfr.out.1.none_trans (by (repeat (first | exact Keeps.refl _ _ | exact Keeps.alloc _ _ | exact Keeps.drew _ | exact Keeps.drewN _ _ | refine Keeps.trans_drew ?_ | refine Keeps.trans_drewN ?_ | refine Keeps.trans_alloc ?_)))).none_trans Hk3.out, by simp [Value.ownBlock]⟩
        · rcases ny : ys.numbersB with _ | _
          · rw [nx, ny] at hbet
            have hbet' : r = (5, []) := by rw [hb]; exact hbet
            subst hbet'
            have hyc := bw_cells y0 y1 y2 y3 y4 y5 y6 y7 y8
            have Hx := Lib.hid hx; clear hx; have Hy := Lib.hid hy; clear hy; have Hrow := Lib.hid hrow; clear hrow; have Hfr := Lib.hid hfr; clear hfr; have Hq := Lib.hid hq; clear hq; have Hbet := Lib.hid hbet; clear hbet; have HRx := Lib.hid hRx; clear hRx; have HRy := Lib.hid hRy; clear hRy; have Nx := Lib.hid nx; clear nx; have Ny := Lib.hid ny; clear ny; have Hxy := Lib.hid hxy; clear hxy; have Hb := Lib.hid hb; clear hb; have Hlx' := Lib.hid hlx'; clear hlx'; have Hyc := Lib.hid hyc; clear hyc
            go_wp2_with (go_at_call 51; ((with_reducible refine (adjNumbers_at xs _ _ (HRx.out.keeps (S := fun _ => False) (by (repeat (first | exact Keeps.refl _ _ | exact Keeps.alloc _ _ | exact Keeps.drew _ | exact Keeps.drewN _ _ | refine Keeps.trans_drew ?_ | refine Keeps.trans_drewN ?_ | refine Keeps.trans_alloc ?_))) (by simp)) hlx Nx.out).mono ?_); rintro e w3 ⟨rfl, hk3⟩; have Hk3 := Lib.hid hk3; clear hk3; obtain ⟨z0, z1, z2, z3, z4, z5, z6, z7, z8⟩ := Hyc.out _ (Keeps.none_trans (by (repeat (first | exact Keeps.refl _ _ | exact Keeps.alloc _ _ | exact Keeps.drew _ | exact Keeps.drewN _ _ | refine Keeps.trans_drew ?_ | refine Keeps.trans_drewN ?_ | refine Keeps.trans_alloc ?_))) Hk3.out)))
            go_wp2_with (go_at_call 51; ((with_reducible refine (adjNumbers_at ys _ _ (HRy.out.keeps (S := fun _ => False) (Keeps.none_trans (by (repeat (first | exact Keeps.refl _ _ | exact Keeps.alloc _ _ | exact Keeps.drew _ | exact Keeps.drewN _ _ | refine Keeps.trans_drew ?_ | refine Keeps.trans_drewN ?_ | refine Keeps.trans_alloc ?_))) Hk3.out) (by simp)) hly Ny.out).mono ?_); rintro e w4 ⟨rfl, hk4⟩; have Hk4 := Lib.hid hk4; clear hk4))
            go_ret2
            exact ⟨_, rfl, World.ownsRow_nil _ _ _ _, ((Hfr.out.1.none_trans (by (repeat (first | exact Keeps.refl _ _ | exact Keeps.alloc _ _ | exact Keeps.drew _ | exact Keeps.drewN _ _ | refine Keeps.trans_drew ?_ | refine Keeps.trans_drewN ?_ | refine Keeps.trans_alloc ?_)))).none_trans Hk3.out).none_trans Hk4.out, by simp [Value.ownBlock]⟩
          · rw [nx, ny] at hbet
            have hbet' : r = betRec seq (L.drop (k + 1)) (M.drop (k + 1)) (acc ++ oneAdj seq xs ys) := by rw [hb]; exact hbet
            have hyc := bw_cells y0 y1 y2 y3 y4 y5 y6 y7 y8
            have hbox := heap_alloc_new wr (.cells #[.int .i64 xs.cycle, .int .i64 xs.fr, .int .i64 xs.to, .int .i64 xs.due, .slice adx xs.lines.length cx, .int .i64 xs.total, .int .i64 xs.credit, .int .i64 xs.min, .bool xs.grace] 44)
            have hown0 : ∀ i, (Value.slice adv q cv).ownBlock = some i → i < wr.heap.size ∧ w.heap.size ≤ i := fun i e => ⟨own_lt hrow e, hfr.2 i e⟩
            have hg0 : g' < w.heap.size := by
              obtain ⟨i, e, hi⟩ := H2.out.lt (by intro e; have := flat_length SV.cells_length M; rw [e, Hm'.out] at this; simp at this; omega)
              simp only [Value.ownBlock, Option.some.injEq] at e; omega
            have Hx := Lib.hid hx; clear hx; have Hy := Lib.hid hy; clear hy; have Hrow := Lib.hid hrow; clear hrow; have Hfr := Lib.hid hfr; clear hfr; have Hq := Lib.hid hq; clear hq; have Hbet := Lib.hid hbet; clear hbet; have Hbet' := Lib.hid hbet'; clear hbet'; have HRx := Lib.hid hRx; clear hRx; have HRy := Lib.hid hRy; clear hRy; have Nx := Lib.hid nx; clear nx; have Ny := Lib.hid ny; clear ny; have Hxy := Lib.hid hxy; clear hxy; have Hb := Lib.hid hb; clear hb; have Hlx' := Lib.hid hlx'; clear hlx'; have Hyc := Lib.hid hyc; clear hyc; have Hbox := Lib.hid hbox; clear hbox; have Hown0 := Lib.hid hown0; clear hown0
            go_wp2_with (go_at_call 51; ((with_reducible refine (adjNumbers_at xs _ _ (HRx.out.keeps (S := fun _ => False) (by (repeat (first | exact Keeps.refl _ _ | exact Keeps.alloc _ _ | exact Keeps.drew _ | exact Keeps.drewN _ _ | refine Keeps.trans_drew ?_ | refine Keeps.trans_drewN ?_ | refine Keeps.trans_alloc ?_))) (by simp)) hlx Nx.out).mono ?_); rintro e w3 ⟨rfl, hk3⟩; have Hk3 := Lib.hid hk3; clear hk3; obtain ⟨z0, z1, z2, z3, z4, z5, z6, z7, z8⟩ := Hyc.out _ (Keeps.none_trans (by (repeat (first | exact Keeps.refl _ _ | exact Keeps.alloc _ _ | exact Keeps.drew _ | exact Keeps.drewN _ _ | refine Keeps.trans_drew ?_ | refine Keeps.trans_drewN ?_ | refine Keeps.trans_alloc ?_))) Hk3.out)))
            go_wp2_with (go_at_call 51; ((with_reducible refine (adjNumbers_at ys _ _ (HRy.out.keeps (S := fun _ => False) (Keeps.none_trans (by (repeat (first | exact Keeps.refl _ _ | exact Keeps.alloc _ _ | exact Keeps.drew _ | exact Keeps.drewN _ _ | refine Keeps.trans_drew ?_ | refine Keeps.trans_drewN ?_ | refine Keeps.trans_alloc ?_))) Hk3.out) (by simp)) hly Ny.out).mono ?_); rintro e w4 ⟨rfl, hk4⟩; have Hk4 := Lib.hid hk4; clear hk4))
            have hkA : Keeps (fun _ => False) wr w4 := (Keeps.none_trans (by (repeat (first | exact Keeps.refl _ _ | exact Keeps.alloc _ _ | exact Keeps.drew _ | exact Keeps.drewN _ _ | refine Keeps.trans_drew ?_ | refine Keeps.trans_drewN ?_ | refine Keeps.trans_alloc ?_))) Hk3.out).none_trans Hk4.out
            have hs4 : bwS wr.heap.size g' o' k xs ys (.slice adx xs.lines.length cx) (.slice ady ys.lines.length cy) w4 := by
              have hb4 := box_old (box_old Hbox.out Hk3.out (by simp)) Hk4.out (by simp)
              obtain ⟨t0, t1, t2, t3, t4, t5, t6, t7, t8⟩ := Hyc.out _ hkA
              exact ⟨cell_of_cells hb4 0, cell_of_cells hb4 1, cell_of_cells hb4 2, cell_of_cells hb4 3, cell_of_cells hb4 4, cell_of_cells hb4 5, cell_of_cells hb4 6, cell_of_cells hb4 7, cell_of_cells hb4 8, t0, t1, t2, t3, t4, t5, t6, t7, t8⟩
            have HkA := Lib.hid hkA; clear hkA; have Hs4 := Lib.hid hs4; clear hs4
            clear z0 z1 z2 z3 z4 z5 z6 z7 z8 y0 y1 y2 y3 y4 y5 y6 y7 y8 x0 x1 x2 x3 x4 x5 x6 x7 x8
            refine wp_region_mixw (bwS wr.heap.size g' o' k xs ys (.slice adx xs.lines.length cx) (.slice ady ys.lines.length cy)) (.take 0 (.take 1 (.take 2 (.take 3 (.take 4 (.take 5 (.take 6 (.move 7 (.move 8 (.take 9 .done)))))))))) (by kernel_rfl) (by kernel_rfl) ?_ ?_
            · exact Hs4.out.keep (Keeps.drew _)
            intro w5 hs5 hk5
            have hkB : Keeps (fun _ => False) wr w5 := HkA.out.none_trans hk5
            have Hs5 := Lib.hid hs5; clear hs5; have HkB := Lib.hid hkB; clear hkB
            clear hk5
            repeat (first
              | (refine mix_skip rfl (by rfl) ?_; try simp only [Act.put, List.setIfInBounds_toArray, List.set_cons_zero, List.set_cons_succ])
              | (refine mix_skipm rfl (by rfl) ?_; try simp only [Act.put, List.setIfInBounds_toArray, List.set_cons_zero, List.set_cons_succ])
              | (refine mix_take (v := ?_) rfl (by rfl) ?_ ?_; rotate_left; (· intro w' hSw; unfold bwS at hSw; go_simp; (try with_reducible rfl)); rotate_right; try simp only [Act.put, List.setIfInBounds_toArray, List.set_cons_zero, List.set_cons_succ]))
            refine mix_move rfl (fun K hK => ?_)
            go_simp
            go_at_call 52
            ((with_reducible refine (adjOne_at seq xs ys _ _ _ (HRx.out.keeps HkB.out (by simp)) (HRy.out.keeps HkB.out (by simp)) Hxy.out hlx Nx.out Ny.out).mono ?_); rintro e w6 ⟨v6, rfl, hrow6, hfr6⟩; dsimp only)
            refine hK.out _ _ (by exact Hs5.out.keep hfr6.1) ?_
            clear hK K
            try simp only [Act.put, List.setIfInBounds_toArray, List.set_cons_zero, List.set_cons_succ]
            have Hrow6 := Lib.hid hrow6; clear hrow6; have Hfr6 := Lib.hid hfr6; clear hfr6
            repeat (first
              | (refine mix_skip rfl (by rfl) ?_; try simp only [Act.put, List.setIfInBounds_toArray, List.set_cons_zero, List.set_cons_succ])
              | (refine mix_skipm rfl (by rfl) ?_; try simp only [Act.put, List.setIfInBounds_toArray, List.set_cons_zero, List.set_cons_succ])
              | (refine mix_take (v := ?_) rfl (by rfl) ?_ ?_; rotate_left; (· intro w' hSw; unfold bwS at hSw; go_simp; (try with_reducible rfl)); rotate_right; try simp only [Act.put, List.setIfInBounds_toArray, List.set_cons_zero, List.set_cons_succ]))
            have hol := oneAdj_le seq xs ys
            obtain ⟨ad6, c6, rfl, _, _⟩ := ownsRow_shape Hrow6.out
            refine mix_move rfl (fun K hK => ?_)
            refine step_append_row rfl (.tmp 33) (.tmp 40) 63 rfl 0 69 i0 _ 9 72 Try.underlying63 Hi.out Hi0.out Hi1.out Hi2.out rfl (by decide) (.slice adv q cv) q _ rfl ((Hrow.out.of_keeps HkB.out).of_keeps Hfr6.out.1) _ _ _ rfl (Reads.of_owns Hrow6.out) (Adj.one _) (by unfold maxLen; omega) (by omega) (Nat.zero_le _) ?_
            intro v7 w7 hown hk7 hf7
            have hk7' : Keeps (fun i => (Value.slice adv q cv).ownBlock = some i) wr w7 := (HkB.out.trans (Hfr6.out.1.mono (by simp))).mono (fun _ _ h => h.elim) |>.trans (hk7.mono fun i _ e => .inl e)
            refine hK.out _ _ (by exact (Hs5.out.keep Hfr6.out.1).keep2 hk7 (fun e => by have := (Hown0.out _ e).1; omega) (fun e => by have := (Hown0.out _ e).2; omega)) ?_
            clear hK K
            try simp only [Act.put, List.setIfInBounds_toArray, List.set_cons_zero, List.set_cons_succ]
            have hfr7 : Fresh w w7 v7 := by
              refine ⟨Hfr.out.1.trans (hk7'.mono fun i _ e => .inr (Hown0.out i e).2), fun i e => ?_⟩
              rcases hf7 with e' | ⟨i', e', h'⟩
              · exact (Hown0.out i (by rw [← e']; exact e)).2
              · rw [e'] at e; simp only [Option.some.injEq] at e; have := Hfr.out.1.size; have := HkB.out.size; have := Hfr6.out.1.size; omega
            obtain ⟨ad7, c7, rfl, _, _⟩ := ownsRow_shape hown
            have hown' : w7.ownsRow 0 69 9 (.slice ad7 (acc ++ oneAdj seq xs ys).length c7) (acc ++ oneAdj seq xs ys).length ((acc ++ oneAdj seq xs ys).flatMap Adj.cells) := by
              simp only [List.length_append, Hq.out, List.flatMap_append]; exact hown
            have hlen : (acc ++ oneAdj seq xs ys).length = q + (oneAdj seq xs ys).length := by rw [List.length_append, Hq.out]
            rw [← hlen] at hfr7 ⊢
            have Hfr7 := Lib.hid hfr7; clear hfr7; have Hown' := Lib.hid hown'; clear hown'; have Hlen := Lib.hid hlen; clear hlen
            clear hk7' hf7 hown hk7
            repeat (first
              | (refine mix_skip rfl (by rfl) ?_; try simp only [Act.put, List.setIfInBounds_toArray, List.set_cons_zero, List.set_cons_succ])
              | (refine mix_skipm rfl (by rfl) ?_; try simp only [Act.put, List.setIfInBounds_toArray, List.set_cons_zero, List.set_cons_succ])
              | (refine mix_take (v := ?_) rfl (by rfl) ?_ ?_; rotate_left; (· intro w' hSw; unfold bwS at hSw; go_simp; (try with_reducible rfl)); rotate_right; try simp only [Act.put, List.setIfInBounds_toArray, List.set_cons_zero, List.set_cons_succ]))
            refine mix_done ?_
            go_wp2_with fail
            go_roundw
            case rel => exact ⟨k + 1, acc ++ oneAdj seq xs ys, ad7, c7, by omega, by go_num, by simp, Hown'.out, Hfr7.out, by rw [Hlen.out]; omega, by rw [← Hb.out]; exact Hbet'.out⟩
            case measure => simp [intOf]; omega
      · obtain rfl : k = n := by omega
        have hr0 : r = (0, acc) := by
          rw [hb, hbet, List.drop_eq_nil_of_le (by rw [Hn.out]; exact Nat.le_refl _)]; rfl
        subst hr0
        have Hrow := Lib.hid hrow; clear hrow; have Hfr := Lib.hid hfr; clear hfr; have Hq := Lib.hid hq; clear hq; have Hbet := Lib.hid hbet; clear hbet; have Hb := Lib.hid hb; clear hb
        go_wp2_with fail
        go_ret2
        exact ⟨_, rfl, by rw [Hq.out]; exact Hrow.out, Hfr.out⟩
  · subst hb
    have H1 := Lib.hid h1; clear h1; have H2 := Lib.hid h2; clear h2; have Hn := Lib.hid hn; clear hn; have Hm' := Lib.hid hm'; clear hm'; have Hsl := Lib.hid hsl; clear hsl; have Hsm := Lib.hid hsm; clear hsm; have Heq := Lib.hid heq; clear heq; have Hal := Lib.hid hal; clear hal; have Hi := Lib.hid hi; clear hi; have Hi0 := Lib.hid hi0; clear hi0; have Hi1 := Lib.hid hi1; clear hi1; have Hi2 := Lib.hid hi2; clear hi2
    go_enter Try.func27, Try.ntmps27
    go_wp2_with fail
    refine (Heq.out _ (Keeps.refl _ _)).mono ?_
    rintro e w1 ⟨b, rfl, hr, hk1⟩
    obtain rfl : b = false := by
      cases b with
      | false => rfl
      | true => exact absurd (hr.1 rfl) Hal.out
    clear hr
    have Hk1 := Lib.hid hk1; clear hk1
    go_wp2_with fail
    go_ret2
    exact ⟨_, rfl, World.ownsRow_nil _ _ _ _, Hk1.out, by simp [Value.ownBlock]⟩
end Go.Proofs.Ythokcmbgamanbaa
