/- The walks of the adjust layer: Onto, all of a list of adjusts. -/
import Derived.Test.YthokcmbgamanbaaAdj6
namespace Go.Proofs.Ythokcmbgamanbaa
open Go.RowKit
/-- What a list of adjusts makes of a statement, or why not. -/
def Stm.ontos (s : Stm) : List Adj → Int × Stm
  | [] => (0, s)
  | a :: l => if a.cycle = s.cycle then (if (s.onto a).1 = 0 then (s.onto a).2.ontos l else ((s.onto a).1, s)) else s.ontos l
theorem onto_lines (s : Stm) (a : Adj) : (s.onto a).2.lines.length = s.lines.length ∧ (s.onto a).2.cycle = s.cycle := by
  unfold Stm.onto
  split
  · exact ⟨rfl, rfl⟩
  · split
    · split
      · split <;> simp
      · exact ⟨rfl, rfl⟩
    · split <;> exact ⟨rfl, rfl⟩
def zeroStm : Stm := ⟨0, 0, 0, 0, 0, 0, 0, false, []⟩
/-- Nine stores into a block. -/
def set9 (w : World) (B : Nat) (x0 x1 x2 x3 x4 x5 x6 x7 x8 : Value) : World :=
  ((((((((w.setCell ⟨B, 0, none⟩ x0).setCell ⟨B, 1, none⟩ x1).setCell ⟨B, 2, none⟩ x2).setCell ⟨B, 3, none⟩ x3).setCell ⟨B, 4, none⟩ x4).setCell ⟨B, 5, none⟩ x5).setCell ⟨B, 6, none⟩ x6).setCell ⟨B, 7, none⟩ x7).setCell ⟨B, 8, none⟩ x8
theorem set9_own {w : World} (g : Nat) (x0 x1 x2 x3 x4 x5 x6 x7 x8 : Value) : Keeps (fun k => k = g) w (set9 w g x0 x1 x2 x3 x4 x5 x6 x7 x8) :=
  ((((((((Keeps.setCell (S := fun q => q = g) w ⟨g, 0, none⟩ x0 rfl).trans (Keeps.setCell _ _ _ (.inl rfl))).trans (Keeps.setCell _ _ _ (.inl rfl))).trans (Keeps.setCell _ _ _ (.inl rfl))).trans (Keeps.setCell _ _ _ (.inl rfl))).trans (Keeps.setCell _ _ _ (.inl rfl))).trans (Keeps.setCell _ _ _ (.inl rfl))).trans (Keeps.setCell _ _ _ (.inl rfl))).trans (Keeps.setCell _ _ _ (.inl rfl))
theorem set9_keeps {w w' : World} (h : Keeps (fun _ => False) w w') {g : Nat} (hg : w.heap.size ≤ g) (x0 x1 x2 x3 x4 x5 x6 x7 x8 : Value) : Keeps (fun _ => False) w (set9 w' g x0 x1 x2 x3 x4 x5 x6 x7 x8) :=
  h.trans ((set9_own g _ _ _ _ _ _ _ _ _).mono fun q _ e => by right; omega)
def OntoPost (s : Stm) (L : List Adj) (w : World) (e : Ending) (w' : World) : Prop :=
  Keeps (fun _ => False) w w' ∧ (((s.ontos L).1 = 0 ∧ ∃ v, e = .returned (.tuple #[(s.ontos L).2.val v, .int .i64 0]) ∧ w'.ownsRow 0 62 3 v (s.ontos L).2.lines.length ((s.ontos L).2.lines.flatMap Ln.cells) ∧ (∀ g, v.ownBlock = some g → w.heap.size ≤ g)) ∨
    ((s.ontos L).1 ≠ 0 ∧ e = .returned (.tuple #[zeroStm.val (.slice none 0 0), .int .i64 (s.ontos L).1])))
set_option maxRecDepth 100000 in
set_option maxHeartbeats 3200000 in
theorem adjOntoAll_any (s : Stm) (v : Value) (ad : Option Addr) (cap : Nat) (L : List Adj) (w : World) (hr : Reads w 3 v s.lines.length (s.lines.flatMap Ln.cells)) (hL : Reads w 9 (.slice ad L.length cap) L.length (L.flatMap Adj.cells))
    (hl : s.lines.length ≤ 1000000) (hlL : L.length ≤ 1000000) :
    Calls Try.prog 28 #[s.val v, .slice ad L.length cap] w (OntoPost s L w) := by
  obtain ⟨n, hn⟩ : ∃ n, s.lines.length = n := ⟨_, rfl⟩
  obtain ⟨m, hm⟩ : ∃ m, L.length = m := ⟨_, rfl⟩
  rw [hm] at hL hlL ⊢
  simp only [Stm.val]
  have Hr := Lib.hid hr; clear hr; have HL := Lib.hid hL; clear hL; have Hn := Lib.hid hn; clear hn; have Hm := Lib.hid hm; clear hm
  go_enter Try.func28, Try.ntmps28
  go_wp2_with fail
  refine (cloneLine_any _ v s.lines.length _ (Hr.out.keeps (S := fun _ => False) (by (repeat (first | exact Keeps.refl _ _ | exact Keeps.alloc _ _ | exact Keeps.drew _ | exact Keeps.drewN _ _ | refine Keeps.trans_drew ?_ | refine Keeps.trans_drewN ?_ | refine Keeps.trans_alloc ?_))) (by simp)) (fun u hu => Ln.one _ u hu) (by omega)).mono ?_
  rintro e w1 ⟨v', rfl, hrow, hk1, hnew⟩
  have hS : w1.heap[w.heap.size]? = some (.cells #[.int .i64 s.cycle, .int .i64 s.fr, .int .i64 s.to, .int .i64 s.due, v, .int .i64 s.total, .int .i64 s.credit, .int .i64 s.min, .bool s.grace] 44 (0, 0)) := by
    rw [hk1.block _ (by simp; omega) (by simp)]; exact (Below.heap_alloc _ _ _ (by simp)).trans (heap_alloc_new w _)
  have hR : w1.heap[w.heap.size + 1]? = some (.cells #[.int .i64 0, .int .i64 0, .int .i64 0, .int .i64 0, .slice none 0 0, .int .i64 0, .int .i64 0, .int .i64 0, .bool false] 44 (0, 0)) := by
    rw [hk1.block _ (by simp) (by simp)]
    have := heap_alloc_new (w.alloc (.cells #[.int .i64 s.cycle, .int .i64 s.fr, .int .i64 s.to, .int .i64 s.due, v, .int .i64 s.total, .int .i64 s.credit, .int .i64 s.min, .bool s.grace] 44)) (.cells #[.int .i64 0, .int .i64 0, .int .i64 0, .int .i64 0, .slice none 0 0, .int .i64 0, .int .i64 0, .int .i64 0, .bool false] 44)
    simpa using this
  have hvS : v'.ownBlock ≠ some w.heap.size := fun e => by have := hnew _ e; simp at this; omega
  have hOS : OS (w1.setCell ⟨w.heap.size, 4, none⟩ v') w.heap.size s v' := by
    refine ⟨?_, ?_⟩
    · rw [heap_setCell_same _ _ 4 _ _ v' hS]; rfl
    · exact (Keeps.setCell (S := fun k => k = w.heap.size) w1 ⟨w.heap.size, 4, none⟩ v' rfl).row hrow fun k hk e => hvS (by rw [← e]; exact hk)
  have hR2 : (w1.setCell ⟨w.heap.size, 4, none⟩ v').heap[w.heap.size + 1]? = some (.cells #[.int .i64 0, .int .i64 0, .int .i64 0, .int .i64 0, .slice none 0 0, .int .i64 0, .int .i64 0, .int .i64 0, .bool false] 44 (0, 0)) := by
    rw [(Keeps.setCell (S := fun k => k = w.heap.size) w1 ⟨w.heap.size, 4, none⟩ v' rfl).block _ (lt_of_block hR) (by omega)]; exact hR
  have hk2 : Keeps (fun _ => False) w (w1.setCell ⟨w.heap.size, 4, none⟩ v') := (Keeps.none_trans (by (repeat (first | exact Keeps.refl _ _ | exact Keeps.alloc _ _ | exact Keeps.drew _ | exact Keeps.drewN _ _ | refine Keeps.trans_drew ?_ | refine Keeps.trans_drewN ?_ | refine Keeps.trans_alloc ?_))) hk1).trans (Keeps.setCell _ _ _ (.inr (Nat.le_refl _)))
  have c4 := cell_of_cells hS 4
  have f4 := free_of_cells hS 4
  obtain ⟨ad', cap', rfl, _⟩ := ownsRow_shape hrow
  have HOS := Lib.hid hOS; clear hOS; have HR2 := Lib.hid hR2; clear hR2; have Hk2 := Lib.hid hk2; clear hk2; have Hrow := Lib.hid hrow; clear hrow; have Hk1 := Lib.hid hk1; clear hk1; have HS := Lib.hid hS; clear hS; have HR := Lib.hid hR; clear hR; have Hnew := Lib.hid hnew; clear hnew; have HvS := Lib.hid hvS; clear hvS
  go_wp2_with fail
  clear c4 f4
  go_loopw [15] (fun c wr => ∃ (k : Nat) (sk : Stm), k ≤ m ∧ c = .int .i64 (k : Nat) ∧ OS wr w.heap.size sk (.slice ad' s.lines.length cap') ∧ wr.heap[w.heap.size + 1]? = some (.cells #[.int .i64 0, .int .i64 0, .int .i64 0, .int .i64 0, .slice none 0 0, .int .i64 0, .int .i64 0, .int .i64 0, .bool false] 44 (0, 0)) ∧ Keeps (fun _ => False) w wr ∧ sk.lines.length = s.lines.length ∧ s.ontos L = sk.ontos (L.drop k)) (fun c _ => m - (intOf c).toNat)
  case atStart => exact ⟨0, s, Nat.zero_le _, rfl, HOS.out, HR2.out, Hk2.out, rfl, rfl⟩
  case round =>
    obtain ⟨k, sk, hkm, rfl, hos, hR, hk, hsl, hon⟩ := hrel
    have s0 := cell_of_cells hos.blk 0
    have hbS := lt_of_block hos.blk
    have hbR := lt_of_block hR
    by_cases hlt : k < m
    · obtain ⟨a, ha⟩ := get_some (L := L) (k := k) (by rw [Hm.out]; exact hlt)
      obtain ⟨g, o, c, he, hc⟩ := (HL.out.keeps hk (by simp)).elem Adj.cells_length ha (by decide)
      simp only [Value.slice.injEq, true_and] at he
      obtain ⟨rfl, rfl⟩ := he
      have hdrop : L.drop k = a :: L.drop (k + 1) := by
        rw [List.drop_eq_getElem_cons (by rw [Hm.out]; exact hlt)]
        congr 1
        have := List.getElem?_eq_getElem (l := L) (i := k) (by rw [Hm.out]; exact hlt)
        rw [this] at ha; simpa using ha
      rw [hdrop] at hon
      have hol := onto_lines sk a
      have hany := fun W => adjOnto_any w.heap.size sk (.slice ad' s.lines.length cap') a W
      obtain ⟨sq, cy, tr, ba, it, to, cr, mi, gr⟩ := a
      have x0 : wr.cell? ⟨g, o + k * 9, none⟩ = some (.int .i64 sq) := hc 0 (by decide)
      have x1 : wr.cell? ⟨g, o + k * 9 + 1, none⟩ = some (.int .i64 cy) := hc 1 (by decide)
      have x2 : wr.cell? ⟨g, o + k * 9 + 2, none⟩ = some (.int .i64 tr) := hc 2 (by decide)
      have x3 : wr.cell? ⟨g, o + k * 9 + 3, none⟩ = some (.int .i64 ba) := hc 3 (by decide)
      have x4 : wr.cell? ⟨g, o + k * 9 + 4, none⟩ = some (.int .i64 it) := hc 4 (by decide)
      have x5 : wr.cell? ⟨g, o + k * 9 + 5, none⟩ = some (.int .i64 to) := hc 5 (by decide)
      have x6 : wr.cell? ⟨g, o + k * 9 + 6, none⟩ = some (.int .i64 cr) := hc 6 (by decide)
      have x7 : wr.cell? ⟨g, o + k * 9 + 7, none⟩ = some (.int .i64 mi) := hc 7 (by decide)
      have x8 : wr.cell? ⟨g, o + k * 9 + 8, none⟩ = some (.int .i64 gr) := hc 8 (by decide)
      have hgl := cell_lt x0
      clear hc
      have hstep : sk.ontos (⟨sq, cy, tr, ba, it, to, cr, mi, gr⟩ :: L.drop (k + 1)) = if cy = sk.cycle then (if (sk.onto ⟨sq, cy, tr, ba, it, to, cr, mi, gr⟩).1 = 0 then (sk.onto ⟨sq, cy, tr, ba, it, to, cr, mi, gr⟩).2.ontos (L.drop (k + 1)) else ((sk.onto ⟨sq, cy, tr, ba, it, to, cr, mi, gr⟩).1, sk)) else sk.ontos (L.drop (k + 1)) := rfl
      rw [hstep] at hon
      clear hstep
      have s0' : wr.cell? ⟨w.heap.size, 0, none⟩ = some (.int .i64 sk.cycle) := s0
      clear s0
      have hkw : ∀ W, Keeps (fun k => k = w.heap.size ∨ (Value.slice ad' s.lines.length cap').ownBlock = some k) (wr.alloc (.cells #[.int .i64 sq, .int .i64 cy, .int .i64 tr, .int .i64 ba, .int .i64 it, .int .i64 to, .int .i64 cr, .int .i64 mi, .int .i64 gr] 69)) W → Keeps (fun _ => False) w W ∧ W.heap[w.heap.size + 1]? = some (.cells #[.int .i64 0, .int .i64 0, .int .i64 0, .int .i64 0, .slice none 0 0, .int .i64 0, .int .i64 0, .int .i64 0, .bool false] 44 (0, 0)) := by
        intro W h3
        refine ⟨(hk.none_trans (Keeps.alloc _ _)).trans (h3.mono ?_), ?_⟩
        · rintro q _ (rfl | h5)
          · right; omega
          · have := Hnew.out q h5; simp at this; right; omega
        · rw [h3.block _ (by simp; omega) ?_]
          · exact box_alloc hR _
          · rintro (h5 | h5)
            · omega
            · have := Hnew.out _ h5; simp at this; omega
      by_cases hcy : cy = sk.cycle
      · rw [if_pos hcy] at hon
        subst hcy
        obtain ⟨z, hz⟩ : ∃ z, (sk.onto ⟨sq, sk.cycle, tr, ba, it, to, cr, mi, gr⟩).1 = z := ⟨_, rfl⟩
        rw [hz] at hon hany
        have hos' := hos.keep (Keeps.alloc (S := fun _ => False) wr (.cells #[.int .i64 sq, .int .i64 sk.cycle, .int .i64 tr, .int .i64 ba, .int .i64 it, .int .i64 to, .int .i64 cr, .int .i64 mi, .int .i64 gr] 69))
        by_cases hz0 : z = 0
        · rw [if_pos hz0] at hon
          subst hz0
          have Ha := Lib.hid ha; clear ha; have Hos := Lib.hid hos; clear hos; have HR := Lib.hid hR; clear hR; have Hk := Lib.hid hk; clear hk; have Hsl := Lib.hid hsl; clear hsl; have Hon := Lib.hid hon; clear hon; have Hdrop := Lib.hid hdrop; clear hdrop; have Hol := Lib.hid hol; clear hol; have Hany := Lib.hid hany; clear hany; have Hz := Lib.hid hz; clear hz; have Hos' := Lib.hid hos'; clear hos'; have Hkw := Lib.hid hkw; clear hkw
          go_wp2_with (go_at_call 54; refine (Hany.out _ Hos'.out (by rw [Hsl.out]; exact hl)).mono ?_; rintro e w3 ⟨rfl, hk3, hos3⟩; have H3 := Lib.hid (Hkw.out _ hk3); have Hos3 := Lib.hid (hos3 rfl); clear hk3 hos3)
          go_roundw
          case rel => exact ⟨k + 1, _, by omega, by go_num, Hos3.out, H3.out.2, H3.out.1, by rw [Hol.out.1, Hsl.out], Hon.out⟩
          case measure => simp [intOf]; omega
        · rw [if_neg hz0] at hon
          have hz0' : decide (z = 0) = false := by simp [hz0]
          have hbad : ∀ W x0 x1 x2 x3 x4 x5 x6 x7 x8, Keeps (fun _ => False) w W → OntoPost s L w (.returned (.tuple #[zeroStm.val (.slice none 0 0), .int .i64 z])) (set9 W (w.heap.size + 1) x0 x1 x2 x3 x4 x5 x6 x7 x8) := by
            intro W x0 x1 x2 x3 x4 x5 x6 x7 x8 hW
            refine ⟨set9_keeps hW (by omega) _ _ _ _ _ _ _ _ _, .inr ⟨by rw [hon]; exact hz0, by rw [hon]⟩⟩
          have Ha := Lib.hid ha; clear ha; have Hos := Lib.hid hos; clear hos; have HR := Lib.hid hR; clear hR; have Hk := Lib.hid hk; clear hk; have Hsl := Lib.hid hsl; clear hsl; have Hon := Lib.hid hon; clear hon; have Hdrop := Lib.hid hdrop; clear hdrop; have Hol := Lib.hid hol; clear hol; have Hany := Lib.hid hany; clear hany; have Hz := Lib.hid hz; clear hz; have Hos' := Lib.hid hos'; clear hos'; have Hkw := Lib.hid hkw; clear hkw; have Hbad := Lib.hid hbad; clear hbad
          go_wp2_with (go_at_call 54; refine (Hany.out _ Hos'.out (by rw [Hsl.out]; exact hl)).mono ?_; rintro e w3 ⟨rfl, hk3, hos3⟩; have H3 := Lib.hid (Hkw.out _ hk3); clear hk3 hos3; have hR3 := H3.out.2; have r0 : World.cell? _ (⟨w.heap.size + 1, 0, none⟩ : Addr) = some (.int .i64 0) := cell_of_cells hR3 0; have r1 : World.cell? _ (⟨w.heap.size + 1, 1, none⟩ : Addr) = some (.int .i64 0) := cell_of_cells hR3 1; have r2 : World.cell? _ (⟨w.heap.size + 1, 2, none⟩ : Addr) = some (.int .i64 0) := cell_of_cells hR3 2; have r3 : World.cell? _ (⟨w.heap.size + 1, 3, none⟩ : Addr) = some (.int .i64 0) := cell_of_cells hR3 3; have r4 : World.cell? _ (⟨w.heap.size + 1, 4, none⟩ : Addr) = some (.slice none 0 0) := cell_of_cells hR3 4; have r5 : World.cell? _ (⟨w.heap.size + 1, 5, none⟩ : Addr) = some (.int .i64 0) := cell_of_cells hR3 5; have r6 : World.cell? _ (⟨w.heap.size + 1, 6, none⟩ : Addr) = some (.int .i64 0) := cell_of_cells hR3 6; have r7 : World.cell? _ (⟨w.heap.size + 1, 7, none⟩ : Addr) = some (.int .i64 0) := cell_of_cells hR3 7; have r8 : World.cell? _ (⟨w.heap.size + 1, 8, none⟩ : Addr) = some (.bool false) := cell_of_cells hR3 8; have f0 := free_of_cells hR3 0; have f1 := free_of_cells hR3 1; have f2 := free_of_cells hR3 2; have f3 := free_of_cells hR3 3; have f4 := free_of_cells hR3 4; have f5 := free_of_cells hR3 5; have f6 := free_of_cells hR3 6; have f7 := free_of_cells hR3 7; have f8 := free_of_cells hR3 8; have rl := lt_of_block hR3; clear hR3)
          exact bodyPost_ret (v := .tuple #[.agg #[.int .i64 0, .int .i64 0, .int .i64 0, .int .i64 0, .slice none 0 0, .int .i64 0, .int .i64 0, .int .i64 0, .bool false], .int .i64 z]) (by simp [results, Try.results28, go_sem, r0, r1, r2, r3, r4, r5, r6, r7, r8, rl]) rfl (Hbad.out _ _ _ _ _ _ _ _ _ _ H3.out.1)
      · rw [if_neg hcy] at hon
        have hos' := hos.keep (Keeps.alloc (S := fun _ => False) wr (.cells #[.int .i64 sq, .int .i64 cy, .int .i64 tr, .int .i64 ba, .int .i64 it, .int .i64 to, .int .i64 cr, .int .i64 mi, .int .i64 gr] 69))
        have Ha := Lib.hid ha; clear ha; have Hos := Lib.hid hos; clear hos; have HR := Lib.hid hR; clear hR; have Hk := Lib.hid hk; clear hk; have Hsl := Lib.hid hsl; clear hsl; have Hon := Lib.hid hon; clear hon; have Hdrop := Lib.hid hdrop; clear hdrop; have Hol := Lib.hid hol; clear hol; have Hany := Lib.hid hany; clear hany; have Hos' := Lib.hid hos'; clear hos'; have Hkw := Lib.hid hkw; clear hkw
        go_wp2_with fail
        go_roundw
        case rel => exact ⟨k + 1, sk, by omega, by go_num, Hos'.out, box_alloc HR.out _, Hk.out.none_trans (Keeps.alloc _ _), Hsl.out, Hon.out⟩
        case measure => simp [intOf]; omega
    · obtain rfl : k = m := by omega
      have hde : L.drop k = [] := List.drop_eq_nil_of_le (by rw [Hm.out]; exact Nat.le_refl _)
      rw [hde] at hon
      have r0 : World.cell? _ (⟨w.heap.size + 1, 0, none⟩ : Addr) = some (.int .i64 0) := cell_of_cells hR 0
      have r1 : World.cell? _ (⟨w.heap.size + 1, 1, none⟩ : Addr) = some (.int .i64 0) := cell_of_cells hR 1
      have r2 : World.cell? _ (⟨w.heap.size + 1, 2, none⟩ : Addr) = some (.int .i64 0) := cell_of_cells hR 2
      have r3 : World.cell? _ (⟨w.heap.size + 1, 3, none⟩ : Addr) = some (.int .i64 0) := cell_of_cells hR 3
      have r4 : World.cell? _ (⟨w.heap.size + 1, 4, none⟩ : Addr) = some (.slice none 0 0) := cell_of_cells hR 4
      have r5 : World.cell? _ (⟨w.heap.size + 1, 5, none⟩ : Addr) = some (.int .i64 0) := cell_of_cells hR 5
      have r6 : World.cell? _ (⟨w.heap.size + 1, 6, none⟩ : Addr) = some (.int .i64 0) := cell_of_cells hR 6
      have r7 : World.cell? _ (⟨w.heap.size + 1, 7, none⟩ : Addr) = some (.int .i64 0) := cell_of_cells hR 7
      have r8 : World.cell? _ (⟨w.heap.size + 1, 8, none⟩ : Addr) = some (.bool false) := cell_of_cells hR 8
      have f0 := free_of_cells hR 0
      have f1 := free_of_cells hR 1
      have f2 := free_of_cells hR 2
      have f3 := free_of_cells hR 3
      have f4 := free_of_cells hR 4
      have f5 := free_of_cells hR 5
      have f6 := free_of_cells hR 6
      have f7 := free_of_cells hR 7
      have f8 := free_of_cells hR 8
      have rl := lt_of_block hR
      have s0' : wr.cell? ⟨w.heap.size, 0, none⟩ = some (.int .i64 sk.cycle) := s0
      have s1 : wr.cell? ⟨w.heap.size, 1, none⟩ = some (.int .i64 sk.fr) := cell_of_cells hos.blk 1
      have s2 : wr.cell? ⟨w.heap.size, 2, none⟩ = some (.int .i64 sk.to) := cell_of_cells hos.blk 2
      have s3 : wr.cell? ⟨w.heap.size, 3, none⟩ = some (.int .i64 sk.due) := cell_of_cells hos.blk 3
      have s4 : wr.cell? ⟨w.heap.size, 4, none⟩ = some (.slice ad' s.lines.length cap') := cell_of_cells hos.blk 4
      have s5 : wr.cell? ⟨w.heap.size, 5, none⟩ = some (.int .i64 sk.total) := cell_of_cells hos.blk 5
      have s6 : wr.cell? ⟨w.heap.size, 6, none⟩ = some (.int .i64 sk.credit) := cell_of_cells hos.blk 6
      have s7 : wr.cell? ⟨w.heap.size, 7, none⟩ = some (.int .i64 sk.min) := cell_of_cells hos.blk 7
      have s8 : wr.cell? ⟨w.heap.size, 8, none⟩ = some (.bool sk.grace) := cell_of_cells hos.blk 8
      clear s0
      have hgood : ∀ x0 x1 x2 x3 x4 x5 x6 x7 x8, OntoPost s L w (.returned (.tuple #[.agg #[.int .i64 sk.cycle, .int .i64 sk.fr, .int .i64 sk.to, .int .i64 sk.due, .slice ad' s.lines.length cap', .int .i64 sk.total, .int .i64 sk.credit, .int .i64 sk.min, .bool sk.grace], .int .i64 0])) (set9 wr (w.heap.size + 1) x0 x1 x2 x3 x4 x5 x6 x7 x8) := by
        intro x0 x1 x2 x3 x4 x5 x6 x7 x8
        have hon' : s.ontos L = (0, sk) := hon
        refine ⟨set9_keeps hk (by omega) _ _ _ _ _ _ _ _ _, .inl ⟨by rw [hon'], _, by rw [hon']; rfl, ?_, fun g hg => by have := Hnew.out g hg; simp at this; omega⟩⟩
        rw [hon']
        refine (set9_own (w := wr) (w.heap.size + 1) _ _ _ _ _ _ _ _ _).row (by rw [← hsl] at hos ⊢; exact hos.row) fun g hg e => by have := Hnew.out g hg; simp at this; omega
      have Hos := Lib.hid hos; clear hos; have HR := Lib.hid hR; clear hR; have Hk := Lib.hid hk; clear hk; have Hsl := Lib.hid hsl; clear hsl; have Hon := Lib.hid hon; clear hon; have Hde := Lib.hid hde; clear hde; have Hgood := Lib.hid hgood; clear hgood
      go_wp2_with fail
      exact bodyPost_ret (v := .tuple #[.agg #[.int .i64 sk.cycle, .int .i64 sk.fr, .int .i64 sk.to, .int .i64 sk.due, .slice ad' s.lines.length cap', .int .i64 sk.total, .int .i64 sk.credit, .int .i64 sk.min, .bool sk.grace], .int .i64 0]) (by simp [results, Try.results28, go_sem, r0, r1, r2, r3, r4, r5, r6, r7, r8, rl]) rfl (Hgood.out _ _ _ _ _ _ _ _ _)
end Go.Proofs.Ythokcmbgamanbaa
