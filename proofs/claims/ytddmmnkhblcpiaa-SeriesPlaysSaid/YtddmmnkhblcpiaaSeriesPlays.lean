/- SeriesPlays: whatever is set: each answer, any day's balance, any span's sum, and all changes. -/
import Derived.Test.YtddmmnkhblcpiaaSeries9
import Derived.Deep.DeepCutAuto
namespace Go.Proofs.Ytddmmnkhblcpiaa
open Go.RowKit
/-- Set12, as the program has it. -/
structure Set12 where
  day : Int
  balance : Int
deriving DecidableEq, Inhabited
def Set12.cells (d : Set12) : List Value := [.int .i64 d.day, .int .i64 d.balance]
theorem Set12.cells_length (d : Set12) : d.cells.length = 2 := rfl
theorem Set12.one (L : List Set12) : ∀ u ∈ L.flatMap Set12.cells, u.oneCell' = true := by
  intro u hu
  obtain ⟨d, _, hd⟩ := List.mem_flatMap.1 hu
  simp only [Set12.cells, List.mem_cons, List.not_mem_nil, or_false] at hd
  rcases hd with rfl | rfl <;> rfl
def Set12.wf (a : Set12) : Prop := (Lit.int .i64 a.day).wf = true ∧ (Lit.int .i64 a.balance).wf = true
theorem open_Set12 {H : Type} {enc : TypeId × Value → H} {w : World} {spare : Nat → Bool} {held : Bool} (n : Nat) (cs : List Value) (d : DataW H × List MemPlace) (h : DataW.trod enc Try.prog w 0 spare held n 30 cs = some d) : ∃ a : Set12, cs = a.cells ∧ a.wf := by
  obtain ⟨xs, m, rfl, _, hlen, hxs, hf⟩ := DataW.trod_struct Try.underlying30 h
  have hl : cs.length = 2 := hlen.trans (by kernel_rfl)
  have hx : xs.length = 2 := hxs
  have g0 := hf 0 _ rfl
  rw [show Try.prog.cellsOf _ = 1 from by kernel_rfl, List.getElem?_eq_getElem (show 0 < xs.length by omega)] at g0
  have g1 := hf 1 _ rfl
  rw [show Try.prog.cellsOf _ = 1 from by kernel_rfl, List.getElem?_eq_getElem (show 1 < xs.length by omega)] at g1
  match cs, hl with
  | [c0, c1], _ =>
    obtain ⟨a0, e0, _, w0⟩ := DataW.trod_int Try.underlying3 g0
    simp at e0
    subst e0
    obtain ⟨a1, e1, _, w1⟩ := DataW.trod_int Try.underlying2 g1
    simp at e1
    subst e1
    exact ⟨⟨a0, a1⟩, rfl, w0, w1⟩
set_option maxRecDepth 100000 in
set_option maxHeartbeats 400000 in
theorem plainSpan1_same (a0 : Int) (a1 : Int) (w : World) : Calls Try.prog 24 #[.agg #[.int .i64 a0, .int .i64 a1], .agg #[.int .i64 a0, .int .i64 a1]] w
    fun e w' => e = .returned (.bool true) ∧ Keeps (fun _ => False) w w' := by
  go_enter Try.func24, Try.ntmps24
  go_wp2
  go_ret
  exact ⟨rfl, (Keeps.alloc _ _).trans (Keeps.alloc _ _)⟩
set_option maxRecDepth 100000 in
set_option maxHeartbeats 400000 in
theorem sameSpan_same (L : List Span) (v1 v2 : Value) (w : World) (h1 : Reads w 2 v1 L.length (L.flatMap Span.cells)) (h2 : Reads w 2 v2 L.length (L.flatMap Span.cells)) (hl : L.length ≤ 1000000000000) :
    Calls Try.prog 23 #[v1, v2, .func (.func 24) #[] #[]] w fun e w' => e = .returned (.bool true) ∧ Keeps (fun _ => False) w w' := by
  have g1 := h1
  have g2 := h2
  obtain ⟨ad1, c1, rfl, _, _⟩ := g1
  obtain ⟨ad2, c2, rfl, _, _⟩ := g2
  have H1 := Lib.hid h1; clear h1; have H2 := Lib.hid h2; clear h2
  go_enter Try.func23, Try.ntmps23
  go_wp2
  go_loopw [7] (fun i wr => ∃ k : Nat, k ≤ L.length ∧ i = .int .i64 k ∧ Keeps (fun _ => False) w wr) (fun i _ => L.length - (intOf i).toNat)
  case atStart => exact ⟨0, Nat.zero_le _, rfl, Keeps.refl _ _⟩
  case round =>
    obtain ⟨k, hk, rfl, hkp⟩ := hrel
    have Hkp := Lib.hid hkp; clear hkp
    by_cases hlt : k < L.length
    · obtain ⟨x, hx⟩ : ∃ x, L[k]? = some x := ⟨L[k], List.getElem?_eq_getElem hlt⟩
      obtain ⟨g, o, c, he, hc⟩ := (H1.out.keeps Hkp.out (by simp)).elem Span.cells_length hx (by decide)
      obtain ⟨g', o', c', he', hc'⟩ := (H2.out.keeps Hkp.out (by simp)).elem Span.cells_length hx (by decide)
      simp only [Value.slice.injEq, true_and] at he he'
      obtain ⟨rfl, rfl⟩ := he
      obtain ⟨rfl, rfl⟩ := he'
      obtain ⟨e0, e1⟩ := x
      have x0 : wr.cell? ⟨g, o + k * 2, none⟩ = some (.int .i64 e0) := hc 0 (by decide)
      have x1 : wr.cell? ⟨g, o + k * 2 + 1, none⟩ = some (.int .i64 e1) := hc 1 (by decide)
      have y0 : wr.cell? ⟨g', o' + k * 2, none⟩ = some (.int .i64 e0) := hc' 0 (by decide)
      have y1 : wr.cell? ⟨g', o' + k * 2 + 1, none⟩ = some (.int .i64 e1) := hc' 1 (by decide)
      clear hc hc'
      have Hx := Lib.hid hx; clear hx
      go_wp2
      go_still_tail 9, (by kernel_rfl)
      go_wp2_with (go_at_call 24; refine (plainSpan1_same _ _ _).mono ?_; rintro e w' ⟨rfl, hk2⟩; have Hk2 := Lib.hid hk2; clear hk2)
      go_roundw
      case rel => exact ⟨k + 1, by omega, by go_num, (Hkp.out.trans ((Keeps.drew _).trans (Hk2.out.mono (by simp))))⟩
      case measure => simp [intOf]; omega
    · go_wp2
      go_ret
      exact ⟨rfl, Hkp.out⟩
set_option maxRecDepth 100000 in
set_option maxHeartbeats 400000 in
theorem plainSpan_same (L : List Span) (v1 v2 : Value) (w : World) (h1 : Reads w 2 v1 L.length (L.flatMap Span.cells)) (h2 : Reads w 2 v2 L.length (L.flatMap Span.cells)) (hl : L.length ≤ 1000000000000) :
    Calls Try.prog 16 #[v1, v2] w fun e w' => e = .returned (.bool true) ∧ Keeps (fun _ => False) w w' := by
  have H1 := Lib.hid h1; clear h1; have H2 := Lib.hid h2; clear h2
  go_enter Try.func16, Try.ntmps16
  go_wp2_with (go_at_call 23; refine (sameSpan_same L _ _ _ H1.out H2.out hl).mono ?_; rintro e w' ⟨rfl, hk2⟩; have Hk2 := Lib.hid hk2; clear hk2)
  go_ret
  exact ⟨rfl, Hk2.out⟩
/-- The program's series and the reference's, side by side in the call's own memory. -/
structure SP (B B0 : Nat) (w0 w : World) (b : Nat) (v : Value) (rb : Nat) (rv : Value) (f : Int) (L : List Turn) : Prop where
  ser : SerAt w b v f L
  ref : RSerAt w rb rv f L
  fs : ∀ k, Foot b v k → B ≤ k
  fr : ∀ k, Foot rb rv k → B ≤ k
  ap : ∀ k, Foot b v k → ¬ Foot rb rv k
  bel : Below B0 w0 w
  le : B ≤ w.heap.size
  b0 : B0 ≤ B ∧ B0 ≤ w0.heap.size
section
variable {B B0 : Nat} {w0 w w' : World} {b : Nat} {v : Value} {rb : Nat} {rv : Value} {f : Int} {L L' : List Turn} {r r' : Value} {e e' : Ending}
theorem SP.step {S : Nat → Prop} (h : SP B B0 w0 w b v rb rv f L) (hk : Keeps S w w') (hS : ∀ k, S k → B0 ≤ k ∧ k < B) : SP B B0 w0 w' b v rb rv f L :=
  ⟨h.ser.keeps hk (fun k hk hs => by have := h.fs k hk; have := hS k hs; omega), h.ref.keeps hk (fun k hk hs => by have := h.fr k hk; have := hS k hs; omega), h.fs, h.fr, h.ap, Below.keeps h.bel hk (fun k hs => (hS k hs).1) h.b0.2, Nat.le_trans h.le hk.size, h.b0⟩
theorem SP.both {w'' : World} (h : SP B B0 w0 w b v rb rv f L) (hp : SerPost w b v f L' r e w') (hq : ∀ v', SP B B0 w0 w' b v' rb rv f L → True) : True := trivial
/-- The program's series is set. -/
theorem SP.set1 (h : SP B B0 w0 w b v rb rv f L) (hp : SerPost w b v f L' r e w') : e = .returned r ∧ ∃ v', SerAt w' b v' f L' ∧ RSerAt w' rb rv f L ∧ (∀ k, Foot b v' k → B ≤ k) ∧ (∀ k, Foot b v' k → ¬ Foot rb rv k) ∧ Below B0 w0 w' ∧ B ≤ w'.heap.size ∧ Keeps (fun k => B ≤ k) w w' := by
  obtain ⟨he, v', h1, h2, h3⟩ := hp
  refine ⟨he, v', h1, h.ref.keeps h2 (fun k hk hf => h.ap k hf hk), fun k hk => ?_, fun k hk hr => ?_, Below.keeps h.bel h2 (fun k hk => Nat.le_trans h.b0.1 (h.fs k hk)) h.b0.2, Nat.le_trans h.le h2.size, h2.mono fun k _ hk => h.fs k hk⟩
  · rcases h3 k hk with h4 | h4
    · exact h.fs k h4
    · exact Nat.le_trans h.le h4
  · rcases h3 k hk with h4 | h4
    · exact h.ap k h4 hr
    · have := h.ref.lt k hr; omega
/-- Then the reference's. -/
theorem SP.set2 (fr : ∀ k, Foot rb rv k → B ≤ k) (b0 : B0 ≤ B ∧ B0 ≤ w0.heap.size) (h : SerAt w b v f L' ∧ RSerAt w rb rv f L ∧ (∀ k, Foot b v k → B ≤ k) ∧ (∀ k, Foot b v k → ¬ Foot rb rv k) ∧ Below B0 w0 w ∧ B ≤ w.heap.size) (hp : RSerPost w rb rv f L' r e w') :
    e = .returned r ∧ ∃ rv', SP B B0 w0 w' b v rb rv' f L' ∧ Keeps (fun k => B ≤ k) w w' := by
  obtain ⟨he, v', h1, h2, h3⟩ := hp
  obtain ⟨g1, g2, g3, g4, g5, g6⟩ := h
  refine ⟨he, v', ⟨g1.keeps h2 (fun k hk hf => g4 k hk hf), h1, g3, fun k hk => ?_, fun k hk hr => ?_, Below.keeps g5 h2 (fun k hk => Nat.le_trans b0.1 (fr k hk)) b0.2, Nat.le_trans g6 h2.size, b0⟩, h2.mono fun k _ hk => fr k hk⟩
  · rcases h3 k hk with h4 | h4
    · exact fr k h4
    · exact Nat.le_trans g6 h4
  · rcases h3 k hr with h4 | h4
    · exact g4 k hk h4
    · have := g1.lt k hk; omega
end
theorem serSetL_length (f : Int) (L : List Turn) (d a : Int) : (serSetL f L d a).length ≤ L.length + 1 := by
  unfold serSetL; split
  · exact setT_length L d a
  · omega
theorem sp_start {w w1 w2 : World} {f : Int} {o : Obj} {q : Int} (hq : q = clampT f) (h1 : w1 = (w.alloc o).alloc (.cells #[.int .i64 (clampT f), .slice none 0 0] 52)) (k2 : Keeps (fun _ => False) (w1.alloc (.cells #[.int .i64 q, .slice none 0 0] 43)) w2) :
    SP (w.heap.size + 1) w.heap.size w w2 (w.heap.size + 1) (.slice none 0 0) (w.heap.size + 2) (.slice none 0 0) (clampT f) [] := by
  subst hq
  subst h1
  have hf : ∀ b k, Foot b (.slice none 0 0) k → k = b := fun b k hk => by
    rcases hk with hk | hk
    · exact hk
    · simp [Value.ownBlock] at hk
  have hcl : -1099511627776 ≤ clampT f ∧ clampT f ≤ 1099511627776 := by unfold clampT; omega
  have hok : SerOk (clampT f) [] := ⟨List.Pairwise.nil, by simp⟩
  have b1 : ((w.alloc o).alloc (.cells #[.int .i64 (clampT f), .slice none 0 0] 52)).heap[w.heap.size + 1]? = some (.cells #[.int .i64 (clampT f), .slice none 0 0] 52 (0, 0)) := by
    have := heap_alloc_new (w.alloc o) (.cells #[.int .i64 (clampT f), .slice none 0 0] 52)
    simpa using this
  have b2 := heap_alloc_new ((w.alloc o).alloc (.cells #[.int .i64 (clampT f), .slice none 0 0] 52)) (.cells #[.int .i64 (clampT f), .slice none 0 0] 43)
  refine ⟨⟨?_, World.ownsRow_nil _ _ _ _, hok, hcl⟩, ⟨?_, World.ownsRow_nil _ _ _ _, hok, hcl⟩, fun k hk => ?_, fun k hk => ?_, fun k hk hr => ?_, ?_, ?_, by omega⟩
  · exact box_old (box_alloc b1 _) k2 (by simp)
  · have := box_old b2 k2 (by simp)
    simpa using this
  · rw [hf _ _ hk]; exact Nat.le_refl _
  · rw [hf _ _ hk]; omega
  · have := hf _ _ hk; have := hf _ _ hr; omega
  · exact Keeps.below (S := fun _ => False) ((((Keeps.alloc w _).trans (Keeps.alloc _ _)).trans (Keeps.alloc _ _)).trans (k2.mono (fun _ _ h => h.elim))) (by simp) (Nat.le_refl _)
  · have := k2.size; simp at this; omega
set_option maxRecDepth 100000 in
set_option maxHeartbeats 3200000 in
theorem seriesPlays_walk (w : World) (fr : Int) (hfr : (Lit.int .i64 fr).wf = true) (ad : Option Addr) (cap : Nat) (L : List Set12) (hr : Reads w 2 (.slice ad L.length cap) L.length (L.flatMap Set12.cells)) (hp : ∀ a ∈ L, a.wf) (hm : L.length ≤ maxLen)
    (day : Int) (hday : (Lit.int .i64 day).wf = true) (sp : Span) (hsp : sp.wf) :
    Calls Try.prog 5 #[.int .i64 fr, .slice ad L.length cap, .int .i64 day, .agg #[.int .i64 sp.lo, .int .i64 sp.hi]] w fun e w' => e = .returned (.bool true) ∧ Below w.heap.size w w' := by
  obtain ⟨slo, shi⟩ := sp
  obtain ⟨hslo, hshi⟩ := hsp
  simp only at hslo hshi
  unfold maxLen at hm
  have hfb := wf_i64 hfr
  obtain ⟨fb1, fb2⟩ := hfb
  have Hr := Lib.hid hr; clear hr; have Hp := Lib.hid hp; clear hp; have Hfr := Lib.hid hfr; clear hfr; have Hday := Lib.hid hday; clear hday; have Hslo := Lib.hid hslo; clear hslo; have Hshi := Lib.hid hshi; clear hshi
  go_enter Try.func5, Try.ntmps5
  go_upto_region 1 with (go_at_call 7; refine (serNew_any _ _).mono ?_; rintro e w1 ⟨rfl, rfl⟩)
  go_cut [9, 10] (fun s9 s10 wx => ∃ q : Int, q = clampT fr ∧ s9 = (.pointer (some ⟨w.heap.size + 1, 0, none⟩)) ∧ s10 = (.pointer (some ⟨w.heap.size + 2, 0, none⟩)) ∧ wx = (((w.alloc (.cells #[.int .i64 slo, .int .i64 shi] 35)).alloc (.cells #[.int .i64 (clampT fr), .slice none 0 0] 52)).alloc (.cells #[.int .i64 q, .slice none 0 0] 43)))
  case first =>
    go_wp2_with (go_at_call 7; refine (serNew_any _ _).mono ?_; rintro e w1 ⟨rfl, rfl⟩)
    all_goals
      go_meet
      exact ⟨_, by unfold clampT; omega, rfl, rfl, rfl⟩
  case rest =>
    obtain ⟨q, hq, rfl, rfl, rfl⟩ := hcut
    have Hq := Lib.hid hq; clear hq
    go_wp2_with (go_at_call 8; refine (awake12_any _).mono ?_; rintro e w2 ⟨rfl, hk2⟩; have Hk2 := Lib.hid hk2; clear hk2)
    have h0 := sp_start (w := w) (f := fr) (o := .cells #[.int .i64 slo, .int .i64 shi] 35) Hq.out rfl Hk2.out
    have hbx : w2.heap[w.heap.size]? = some (.cells #[.int .i64 slo, .int .i64 shi] 35 (0, 0)) := box_old (box_alloc (box_alloc (heap_alloc_new w _) _) _) Hk2.out (by simp)
    have H0 := Lib.hid h0; clear h0; have Hbx := Lib.hid hbx; clear hbx
    go_loopw [11] (fun i wr => ∃ k v rv M, k ≤ L.length ∧ M.length ≤ k ∧ i = .int .i64 (k : Nat) ∧ SP (w.heap.size + 1) w.heap.size w wr (w.heap.size + 1) v (w.heap.size + 2) rv (clampT fr) M ∧ k ≤ 40 ∧ wr.heap[w.heap.size]? = some (.cells #[.int .i64 slo, .int .i64 shi] 35 (0, 0))) (fun i _ => L.length - (intOf i).toNat)
    case atStart => exact ⟨0, _, _, [], Nat.zero_le _, Nat.le_refl _, rfl, H0.out, by omega, Hbx.out⟩
    case round =>
      obtain ⟨k, v, rv, M, hk, hMk, rfl, hsp, hk40, hbx⟩ := hrel
      have Hsp := Lib.hid hsp; clear hsp; have Hbx := Lib.hid hbx; clear hbx
      by_cases hlt : k < L.length ∧ k < 40
      · obtain ⟨hlt, h40⟩ := hlt
        obtain ⟨x, hx⟩ := get_some hlt
        obtain ⟨g, o, c, he, hc⟩ := Hr.out.elem Set12.cells_length hx (by decide)
        simp only [Value.slice.injEq, true_and] at he
        obtain ⟨rfl, rfl⟩ := he
        obtain ⟨xd, xb⟩ := x
        have hxw := Hp.out _ (List.mem_of_getElem? hx)
        have hxd := wf_i64 hxw.1
        obtain ⟨hxd1, hxd2⟩ := hxd
        have hgl : g < w.heap.size := cell_lt (hc 0 (by decide))
        have x0 : wr.cell? ⟨g, o + k * 2, none⟩ = some (.int .i64 xd) := (Hsp.out.bel.cell (p := ⟨g, o + k * 2, none⟩) hgl).trans (hc 0 (by decide))
        have x1 : wr.cell? ⟨g, o + k * 2 + 1, none⟩ = some (.int .i64 xb) := (Hsp.out.bel.cell (p := ⟨g, o + k * 2 + 1, none⟩) hgl).trans (hc 1 (by decide))
        clear hc hxw
        have Hx := Lib.hid hx; clear hx
        go_wp2
        have hz := Hsp.out.step (S := fun _ => False) (Keeps.drew _) (by simp)
        have Hz := Lib.hid hz; clear hz
        have hcc : ∀ (W W' : World) (h : Keeps (fun j => w.heap.size + 1 ≤ j) W W') (hs : w.heap.size ≤ W.heap.size) (j : Nat), W'.cell? ⟨g, j, none⟩ = W.cell? ⟨g, j, none⟩ := fun W W' h hs j => h.cell (by show g < W.heap.size; omega) (by show ¬ _ ≤ g; omega)
        have Hcc := Lib.hid hcc; clear hcc
        go_region_held3 (fun w' => w'.cell? ⟨g, o + k * 2, none⟩ = some (.int .i64 xd) ∧ w'.cell? ⟨g, o + k * 2 + 1, none⟩ = some (.int .i64 xb)) (first | go_keep) (first
          | (go_at_call 9; refine (serSet_any xd xb _ _ _ _ _ Hz.out.ser (by omega) (by omega)).mono ?_; rintro e w3 hp; obtain ⟨rfl, v3, a1, a2, a3, a4, a5, a6, hk3⟩ := Hz.out.set1 hp; have hs3 : w.heap.size ≤ wr.drew.heap.size := Hz.out.bel.size; have x0 := Hcc.out _ _ hk3 hs3 (o + k * 2); have x1 := Hcc.out _ _ hk3 hs3 (o + k * 2 + 1); have H3 := Lib.hid (And.intro a1 (And.intro a2 (And.intro a3 (And.intro a4 (And.intro a5 a6))))); have Hk3 := Lib.hid hk3; clear hp a1 a2 a3 a4 a5 a6 hk3)
          | (go_at_call 12; refine (rserSet_any xd xb _ _ _ _ _ H3.out.2.1 (by omega)).mono ?_; rintro e w4 hp; obtain ⟨rfl, rv4, a1, hk4⟩ := SP.set2 Hz.out.fr Hz.out.b0 H3.out hp; have hs4 : w.heap.size ≤ w3.heap.size := Nat.le_trans (Nat.le_succ _) H3.out.2.2.2.2.2; have x0 := Hcc.out _ _ hk4 hs4 (o + k * 2); have x1 := Hcc.out _ _ hk4 hs4 (o + k * 2 + 1); have H4 := Lib.hid a1; have Hk4 := Lib.hid hk4; clear hp a1 hk4))
        go_wp2
        go_roundw
        case rel => exact ⟨k + 1, _, _, _, by omega, Nat.le_trans (serSetL_length _ _ _ _) (by omega), by go_num, H4.out, by omega, box_old (box_old (w := wr.drew) Hbx.out Hk3.out (by omega)) Hk4.out (by omega)⟩
        case measure => simp [intOf]; omega
      · have hMb : M.length ≤ 40 := by omega
        have fin : ∀ W1 W2 : World, SP (w.heap.size + 1) w.heap.size w W1 (w.heap.size + 1) v (w.heap.size + 2) rv (clampT fr) M → Keeps (fun _ => False) W1 W2 → SP (w.heap.size + 1) w.heap.size w W2 (w.heap.size + 1) v (w.heap.size + 2) rv (clampT fr) M := fun W1 W2 h hk => h.step hk (fun _ h => h.elim)
        have Fin := Lib.hid fin
        have hkc : (L.length ≤ k) ∨ (k < L.length ∧ 40 ≤ k) := by omega
        clear fin hlt
        rcases hkc with hkc | ⟨hkc, hkc'⟩
        all_goals
          have q0 := cell_of_cells Hbx.out 0
          have q1 := cell_of_cells Hbx.out 1
          go_wp2_with fail
          refine (near12_any _ _ _ Hslo.out Hshi.out).mono ?_
          rintro e w5 ⟨y, hy, rfl, hk5⟩
          have hyb := wf_i64 hy
          have hsb := wf_i64 Hslo.out
          obtain ⟨hyb1, hyb2⟩ := hyb
          obtain ⟨hsb1, hsb2⟩ := hsb
          have hbx5 := box_old Hbx.out hk5 (by simp)
          have bl := lt_of_block hbx5
          have z0 := cell_of_cells hbx5 0
          have z1 := cell_of_cells hbx5 1
          have y0 := free_of_cells hbx5 0
          have y1 := free_of_cells hbx5 1
          have hb6 : ((w5.setCell ⟨w.heap.size, 0, none⟩ (.int .i64 slo)).setCell ⟨w.heap.size, 1, none⟩ (.int .i64 y)).heap[w.heap.size]? = some (.cells #[.int .i64 slo, .int .i64 y] 35 (0, 0)) :=
            heap_setCell_same _ _ 1 _ _ _ (heap_setCell_same _ _ 0 _ _ _ hbx5)
          have hk6 : Keeps (fun j => j = w.heap.size) w5 ((w5.setCell ⟨w.heap.size, 0, none⟩ (.int .i64 slo)).setCell ⟨w.heap.size, 1, none⟩ (.int .i64 y)) :=
            Keeps.trans (S := fun j => j = w.heap.size) (Keeps.setCell _ _ _ rfl) (Keeps.setCell _ _ _ (.inl rfl))
          have hs6 := (Fin.out _ _ Hsp.out hk5).step hk6 (fun j hj => by omega)
          clear hk6
          have Hb6 := Lib.hid hb6
          have Hs6 := Lib.hid hs6
          clear hb6 hs6 hbx5 hk5 hy
          go_wp2_with fail
          refine (serSum_any slo y _ _ _ _ _ Hs6.out.ser (by omega) hsb1 hyb2).mono ?_
          rintro e w6 ⟨rfl, hk6⟩
          have hb7 := box_old Hb6.out hk6 (by simp)
          have u0 := cell_of_cells hb7 0
          have u1 := cell_of_cells hb7 1
          have Hs7 := Lib.hid (Fin.out _ _ Hs6.out hk6)
          clear hb7 hk6
          go_wp2_with (first
            | (go_at_call 14; refine (rserSum_any slo y _ _ _ _ _ Hs7.out.ref (by omega) hsb1 hsb2 hyb2 hyb1).mono ?_; rintro e w7 ⟨rfl, hk7⟩; have Hs8 := Lib.hid (Fin.out _ _ Hs7.out hk7); clear hk7)
            | (go_at_call 11; refine (serOn_any day _ _ _ _ _ Hs8.out.ser (by omega)).mono ?_; rintro e w8 ⟨rfl, rfl⟩)
            | (go_at_call 15; refine (rserOn_any day _ _ _ _ _ Hs8.out.ref (by omega)).mono ?_; rintro e w9 ⟨rfl, rfl⟩)
            | (go_at_call 17; refine (serChanges_any _ _ _ _ _ Hs8.out.ser (by omega)).mono ?_; rintro e w10 ⟨v10, rfl, ho10⟩; have Ho10 := Lib.hid ho10; have Hs10 := Lib.hid (Fin.out _ _ Hs8.out ho10.kp); clear ho10)
            | (go_at_call 18; refine (rserChanges_any _ _ _ _ _ Hs10.out.ref (by omega)).mono ?_; rintro e w11 ⟨v11, rfl, ho11⟩; have Ho11 := Lib.hid ho11; have Hs11 := Lib.hid (Fin.out _ _ Hs10.out ho11.kp); have Ho12 := Lib.hid (Ho10.out.keep ho11.kp); clear ho11)
            | (go_at_call 16; refine (plainSpan_same _ _ _ _ (Reads.of_owns Ho12.out.row) (Reads.of_owns Ho11.out.row) (by have := chgK_le M M.length; omega)).mono ?_; rintro e w12 ⟨rfl, hk12⟩; have Hs12 := Lib.hid (Fin.out _ _ Hs11.out hk12); clear hk12))
          go_ret
          exact ⟨rfl, Hs12.out.bel⟩
end Go.Proofs.Ytddmmnkhblcpiaa
