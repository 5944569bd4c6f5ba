/- The helpers Own and Kept at a statement's lines. -/
import Derived.Test.YthokcmbgamanbaaDoorPage8
import Derived.Test.YthokcmbgamanbaaDoorFits
import Derived.Test.YthokcmbgamanbaaDoorKit5
import Derived.Test.YthokcmbgamanbaaDoorMix
import Derived.Test.YthokcmbgamanbaaDoorDay2
namespace Go.Proofs.YthokcmbgamanbaaDoor
open Go.RowKit


def ln0 : Ln := ⟨0, 0, 0⟩
def Ln.agg (x : Ln) : Value := .agg #[.int .i64 x.balance, .int .i64 x.interest, .int .i64 x.rate]
theorem made_lns (m : Nat) : (madeCells (Value.agg #[.int .i64 0, .int .i64 0, .int .i64 0]).cells (m * 3)).toList = (List.replicate m ln0).flatMap Ln.cells := by
  have hL : ((List.replicate m ln0).flatMap Ln.cells).length = m * 3 := by rw [flat_length Ln.cells_length]; simp
  have hM : (madeCells (Value.agg #[.int .i64 0, .int .i64 0, .int .i64 0]).cells (m * 3)).toList.length = m * 3 := by simp [madeCells]
  apply List.ext_getElem?
  intro i
  by_cases h : i < m * 3
  · have h5 : i % 3 < 3 := Nat.mod_lt _ (by decide)
    have h2 : ((List.replicate m ln0).flatMap Ln.cells)[i]? = some (.int .i64 0) := by
      have := flat_get Ln.cells_length (L := List.replicate m ln0) (k := i / 3) (j := i % 3) (x := ln0) (by rw [List.getElem?_replicate, if_pos (by omega)]) h5
      rw [show i / 3 * 3 + i % 3 = i by omega] at this
      rw [this]
      rcases (show i % 3 = 0 ∨ i % 3 = 1 ∨ i % 3 = 2 by omega) with h | h | h <;> rw [h] <;> rfl
    rw [h2]
    rw [List.getElem?_eq_getElem (by rw [hM]; exact h)]
    simp only [madeCells, Array.toList_map, List.getElem_map, Array.toList_range, List.getElem_range, Value.cells]
    rcases (show i % 3 = 0 ∨ i % 3 = 1 ∨ i % 3 = 2 by omega) with h | h | h <;> simp [h]
  · rw [List.getElem?_eq_none (by omega), List.getElem?_eq_none (by omega)]
theorem owns_storeNL {α : Type} {f : α → List Value} {size : Nat} {hf : ∀ x, (f x).length = size} {w : World} {base : Nat} {e : TypeId} {g cap n : Nat} {L : List α} (h : w.ownsRow base e size (.slice (some ⟨g, 0, none⟩) n cap) n (L.flatMap f)) (hl : L.length = n) {k : Nat} {x y : α} (hx : L[k]? = some x) (j : Nat) (hj : j < size)
    {u : Value} (hy : (f x).set j u = f y) : (w.setCell ⟨g, k * size + j, none⟩ u).ownsRow base e size (.slice (some ⟨g, 0, none⟩) n cap) n ((L.set k y).flatMap f) := by
  subst hl; exact owns_store hf h hx j hj hy
theorem owns_storeLn {w : World} {g cap n k : Nat} {L : List Ln} (h : w.ownsRow 0 30 3 (.slice (some ⟨g, 0, none⟩) n cap) n (L.flatMap Ln.cells)) (hl : L.length = n) (hk : k < n) (a b c : Int) :
    (((w.setCell ⟨g, k * 3, none⟩ (.int .i64 a)).setCell ⟨g, k * 3 + 1, none⟩ (.int .i64 b)).setCell ⟨g, k * 3 + 2, none⟩ (.int .i64 c)).ownsRow 0 30 3 (.slice (some ⟨g, 0, none⟩) n cap) n ((L.set k ⟨a, b, c⟩).flatMap Ln.cells) := by
  obtain ⟨⟨a0, b0, c0⟩, hx⟩ := get_some (L := L) (k := k) (by omega)
  have s1 := owns_storeNL (hf := Ln.cells_length) h hl hx (y := ⟨a, b0, c0⟩) 0 (by decide) (u := .int .i64 a) rfl
  have s2 := owns_storeNL (hf := Ln.cells_length) s1 (by simp [hl]) (x := ⟨a, b0, c0⟩) (k := k) (by simp [hl, hk]) (y := ⟨a, b, c0⟩) 1 (by decide) (u := .int .i64 b) rfl
  have s3 := owns_storeNL (hf := Ln.cells_length) s2 (by simp [hl]) (x := ⟨a, b, c0⟩) (k := k) (by simp [hl, hk]) (y := ⟨a, b, c⟩) 2 (by decide) (u := .int .i64 c) rfl
  simp only [List.set_set] at s3
  exact s3
theorem keeps_storeLn (w : World) (g o0 o1 o2 : Nat) (a b c : Value) : Keeps (fun i => g = i) w (((w.setCell ⟨g, o0, none⟩ a).setCell ⟨g, o1, none⟩ b).setCell ⟨g, o2, none⟩ c) :=
  ((Keeps.setCell (S := fun i => g = i) w _ _ rfl).trans (Keeps.setCell _ _ _ (.inl rfl))).trans (Keeps.setCell _ _ _ (.inl rfl))
def bxL (E : Nat) (ki da tr : Int) (w : World) : Prop :=
  w.cell? ⟨E, 0, none⟩ = some (.int .i64 ki) ∧ w.cell? ⟨E, 1, none⟩ = some (.int .i64 da) ∧ w.cell? ⟨E, 2, none⟩ = some (.int .i64 tr)
theorem bxL.of {E : Nat} {ki da tr : Int} {w : World} (he : w.heap[E]? = some (.cells #[.int .i64 ki, .int .i64 da, .int .i64 tr] 30 (0, 0))) : bxL E ki da tr w :=
  ⟨cell_of_cells he 0, cell_of_cells he 1, cell_of_cells he 2⟩
/-- What Own gives: a row of its own with three more behind it. -/
structure OwnL (w : World) (g : Nat) (L : List Ln) (x : Ln) : Prop where
  row : w.ownsRow 0 30 3 (.slice (some ⟨g, 0, none⟩) (L.length + 3) (L.length + 3)) (L.length + 3) ((L ++ List.replicate 3 x).flatMap Ln.cells)
theorem OwnL.keep {w w' : World} {g : Nat} {L : List Ln} {x : Ln} (h : OwnL w g L x) (hk : Keeps (fun _ => False) w w') : OwnL w' g L x := ⟨h.row.of_keeps hk⟩
theorem OwnL.full {w : World} {g : Nat} {L : List Ln} {x : Ln} (h : OwnL w g L x) : Reads w 3 (.slice (some ⟨g, 0, none⟩) (L.length + 3) (L.length + 3)) (L.length + 3) ((L ++ List.replicate 3 x).flatMap Ln.cells) := Reads.of_owns h.row
theorem OwnL.reads {w : World} {g : Nat} {L : List Ln} {x : Ln} (h : OwnL w g L x) : Reads w 3 (.slice (some ⟨g, 0, none⟩) L.length (L.length + 3)) L.length (L.flatMap Ln.cells) := by
  have := h.full.preL Ln.cells_length L.length (by omega)
  rwa [List.take_append_of_le_length (Nat.le_refl _), List.take_length] at this
theorem rep_snocL (L : List Ln) (x z : Ln) (j m : Nat) : (L ++ List.replicate j x ++ List.replicate (m + 1) z).set (L.length + j) x = L ++ List.replicate (j + 1) x ++ List.replicate m z := rep_snoc L x z j m
set_option maxRecDepth 100000 in
set_option maxHeartbeats 1600000 in
theorem ownLn_any (w : World) (ad : Option Addr) (cap : Nat) (L : List Ln) (x : Ln) (hr : Reads w 3 (.slice ad L.length cap) L.length (L.flatMap Ln.cells)) (hl : L.length ≤ 1000000) :
    Calls Tryd.prog 11 #[.slice ad L.length cap, x.agg] w fun e w' => e = .returned (.slice (some ⟨w.heap.size + 1, 0, none⟩) L.length (L.length + 3)) ∧ OwnL w' (w.heap.size + 1) L x ∧ Keeps (fun _ => False) w w' := by
  obtain ⟨i0, hi, hi0, hi1, hi2⟩ := info_parts info_tLine
  obtain ⟨n, hn⟩ : ∃ n, L.length = n := ⟨_, rfl⟩
  rw [hn] at hr hl ⊢
  have hmk := fun (W : World) => run_makeSlice (P := Tryd.prog) W 24 30 i0 (.agg #[.int .i64 0, .int .i64 0, .int .i64 0]) Tryd.underlying24 hi hi0 .i64 .i64 0 ((n : Int) + 3) (by omega) (by omega) (by rw [hi1]; omega) (by rw [hi2]; omega) (by omega)
  have hn3 : ((n : Int) + 3).toNat = n + 3 := by omega
  simp only [hn3, Int.toNat_zero, hi1] at hmk
  obtain ⟨Z, hZ⟩ : ∃ Z, Z = madeCells (Value.agg #[.int .i64 0, .int .i64 0, .int .i64 0]).cells ((n + 3) * 3) := ⟨_, rfl⟩
  rw [← hZ] at hmk
  have hZl : Z.toList = (List.replicate (n + 3) ln0).flatMap Ln.cells := by rw [hZ]; exact made_lns _
  have hone := Ln.one L
  obtain ⟨ki, da, tr⟩ := x
  simp only [Ln.agg]
  have hbS : ∀ W, Keeps (fun _ => False) (w.alloc (.cells #[.int .i64 ki, .int .i64 da, .int .i64 tr] 30)) W → bxL w.heap.size ki da tr W := fun W hW => bxL.of (box_old (heap_alloc_new w _) hW (by simp))
  have Hr := Lib.hid hr; clear hr; have HZ := Lib.hid hZ; clear hZ; have HZl := Lib.hid hZl; clear hZl; have Hn3 := Lib.hid hn3; clear hn3; have Hone := Lib.hid hone; clear hone; have Hn := Lib.hid hn; clear hn; have HbS := Lib.hid hbS; clear hbS
  go_enter Tryd.func11, Tryd.ntmps11
  go_wp2_with (at_builtin; refine wpList_append_fits rfl (.tmp 12) (.tmp 13) 24 rfl 30 i0 3 Tryd.underlying24 hi hi1 (w.heap.size + 1) 0 (n + 3) Z.toList rfl (halloc_at2 _ (.cells Z 30) (by simp)) (by rw [HZl.out, flat_length Ln.cells_length]; simp) (by unfold maxLen; omega) _ n _ rfl ((Hr.out.alloc _).alloc _) Hone.out (by omega) ?_)
  intro w2 hb2 hk2
  have hkb : Keeps (fun _ => False) (w.alloc (.cells #[.int .i64 ki, .int .i64 da, .int .i64 tr] 30)) w2 := (Keeps.alloc _ _).trans (hk2.mono fun k _ e => by right; simp; omega)
  have hrow : w2.ownsRow 0 30 3 (.slice (some ⟨w.heap.size + 1, 0, none⟩) (n + 3) (n + 3)) (n + 3) ((L ++ List.replicate 0 (⟨ki, da, tr⟩ : Ln) ++ List.replicate 3 ln0).flatMap Ln.cells) := by
    have hlen : ((L ++ List.replicate 0 (⟨ki, da, tr⟩ : Ln) ++ List.replicate 3 ln0).flatMap Ln.cells).length = (n + 3) * 3 := by rw [flat_length Ln.cells_length]; simp [Hn.out]
    have e0 : laid Z.toList (0 * 3) (L.flatMap Ln.cells) = (L ++ List.replicate 0 (⟨ki, da, tr⟩ : Ln) ++ List.replicate 3 ln0).flatMap Ln.cells := by
      unfold laid
      rw [HZl.out]
      have e1 := flat_dropk Ln.cells_length (List.replicate (n + 3) ln0) n
      have e2 : (L.flatMap Ln.cells).length = n * 3 := by rw [flat_length Ln.cells_length, Hn.out]
      simp only [Nat.zero_mul, List.take_zero, List.nil_append, Nat.zero_add, e2, e1, List.drop_replicate, List.replicate_zero, List.append_nil, List.flatMap_append]
      rw [show n + 3 - n = 3 by omega]
    refine ⟨hlen, .inr ⟨_, _, _, rfl, Nat.zero_le _, hb2, Nat.le_refl _, by unfold maxLen; omega, ?_, ?_⟩⟩
    · rw [e0, List.size_toArray, hlen]
    · rw [e0, List.take_of_length_le (by rw [hlen]; exact Nat.le_refl _)]
  have Hkb := Lib.hid hkb; clear hkb; have Hrow := Lib.hid hrow; clear hrow
  clear hb2 hk2
  clear hmk
  go_wp2
  go_loopw [7] (fun c wr => ∃ (j : Nat), j ≤ 3 ∧ c = .int .i64 ((n + j : Nat) : Int) ∧ wr.ownsRow 0 30 3 (.slice (some ⟨w.heap.size + 1, 0, none⟩) (n + 3) (n + 3)) (n + 3) ((L ++ List.replicate j (⟨ki, da, tr⟩ : Ln) ++ List.replicate (3 - j) ln0).flatMap Ln.cells) ∧ Keeps (fun _ => False) (w.alloc (.cells #[.int .i64 ki, .int .i64 da, .int .i64 tr] 30)) wr) (fun c _ => n + 3 - (intOf c).toNat)
  case atStart => exact ⟨0, by omega, by simp, Hrow.out, Hkb.out⟩
  case round =>
    obtain ⟨j, hj, rfl, hrow, hk⟩ := hrel
    by_cases hj3 : j < 3
    · obtain ⟨m, hm⟩ : ∃ m, 3 - j = m + 1 := ⟨3 - j - 1, by omega⟩
      have hll : (L ++ List.replicate j (⟨ki, da, tr⟩ : Ln) ++ List.replicate (3 - j) ln0).length = n + 3 := by simp [Hn.out]; omega
      have hst := owns_storeLn hrow hll (k := n + j) (by omega) ki da tr
      have hset : (L ++ List.replicate j (⟨ki, da, tr⟩ : Ln) ++ List.replicate (3 - j) ln0).set (n + j) ⟨ki, da, tr⟩ = L ++ List.replicate (j + 1) (⟨ki, da, tr⟩ : Ln) ++ List.replicate (3 - (j + 1)) ln0 := by
        rw [hm, ← Hn.out, rep_snoc, show 3 - (j + 1) = m by omega]
      rw [hset] at hst
      obtain ⟨y, hy⟩ := get_some (L := L ++ List.replicate j (⟨ki, da, tr⟩ : Ln) ++ List.replicate (3 - j) ln0) (k := n + j) (by rw [hll]; omega)
      obtain ⟨g', o', c', he, hc⟩ := (Reads.of_owns hrow).elem Ln.cells_length hy (by decide)
      simp only [Value.slice.injEq, true_and, Option.some.injEq, Addr.mk.injEq, and_true] at he
      obtain ⟨⟨rfl, rfl⟩, rfl⟩ := he
      obtain ⟨y0, y1, y2⟩ := y
      have hbx := HbS.out _ hk
      obtain ⟨b0, b1, b2⟩ := hbx
      have d0 : wr.cell? ⟨w.heap.size + 1, (n + j) * 3, none⟩ = some (.int .i64 y0) := by have := hc 0 (by decide); rwa [Nat.zero_add] at this
      have d1 : wr.cell? ⟨w.heap.size + 1, (n + j) * 3 + 1, none⟩ = some (.int .i64 y1) := by have := hc 1 (by decide); rwa [Nat.zero_add] at this
      have d2 : wr.cell? ⟨w.heap.size + 1, (n + j) * 3 + 2, none⟩ = some (.int .i64 y2) := by have := hc 2 (by decide); rwa [Nat.zero_add] at this
      have hfree : ∀ i, wr.frozen? ⟨w.heap.size + 1, i, none⟩ = false := by
        rcases hrow.2 with ⟨h0, _⟩ | ⟨g1, cap1, cur, h0, _, hh, _⟩
        · simp at h0
        · simp only [Value.slice.injEq, Option.some.injEq, Addr.mk.injEq, and_true, true_and] at h0
          obtain ⟨rfl, _⟩ := h0
          exact fun i => free_of_cells hh i
      have f0 := hfree ((n + j) * 3)
      have f1 := hfree ((n + j) * 3 + 1)
      have f2 := hfree ((n + j) * 3 + 2)
      have hbl := own_lt hrow (g := w.heap.size + 1) rfl
      have hbl2 : w.heap.size < wr.heap.size := by omega
      have hkn := hk.trans ((keeps_storeLn wr (w.heap.size + 1) ((n + j) * 3) ((n + j) * 3 + 1) ((n + j) * 3 + 2) (.int .i64 ki) (.int .i64 da) (.int .i64 tr)).mono fun i _ e => by right; simp; omega)
      have hjl : ((n + j : Nat) : Int) < (n : Int) + 3 := by omega
      clear hc hfree
      have Hrow := Lib.hid hrow; clear hrow; have Hk := Lib.hid hk; clear hk; have Hst := Lib.hid hst; clear hst; have Hkn := Lib.hid hkn; clear hkn; have Hm := Lib.hid hm; clear hm; have Hset := Lib.hid hset; clear hset; have Hll := Lib.hid hll; clear hll; have Hy := Lib.hid hy; clear hy
      go_wp2
      go_roundw
      case rel => exact ⟨j + 1, by omega, by go_num, Hst.out, Hkn.out⟩
      case measure => simp [intOf]; omega
    · obtain rfl : j = 3 := by omega
      have hkw := (Keeps.alloc w _).nt hk
      have Hrow := Lib.hid hrow; clear hrow; have Hk := Lib.hid hk; clear hk; have Hkw := Lib.hid hkw; clear hkw
      go_wp2
      go_ret
      exact ⟨rfl, ⟨by have := Hrow.out; rw [Hn.out]; simpa using this⟩, Hkw.out⟩
def sixS (g o E : Nat) (ki da tr : Int) (w : World) : Prop :=
  w.cell? ⟨g, o, none⟩ = some (.int .i64 ki) ∧ w.cell? ⟨g, o + 1, none⟩ = some (.int .i64 da) ∧ w.cell? ⟨g, o + 2, none⟩ = some (.int .i64 tr) ∧
  w.cell? ⟨E, 0, none⟩ = some (.int .i64 ki) ∧ w.cell? ⟨E, 1, none⟩ = some (.int .i64 da) ∧ w.cell? ⟨E, 2, none⟩ = some (.int .i64 tr)
set_option maxRecDepth 100000 in
set_option maxHeartbeats 1600000 in
theorem keptLn_any (g : Nat) (ad : Option Addr) (cap : Nat) (L : List Ln) (x : Ln) (w : World) (h : OwnL w g L x) (hr : Reads w 3 (.slice ad L.length cap) L.length (L.flatMap Ln.cells)) (hl : L.length ≤ 1000000) :
    Calls Tryd.prog 20 #[.slice (some ⟨g, 0, none⟩) L.length (L.length + 3), .slice ad L.length cap, x.agg] w fun e w' => e = .returned (.bool true) ∧ Keeps (fun _ => False) w w' := by
  have hpl := fun W (hW : Keeps (fun _ => False) w W) => plainLine_same L _ _ W (h.reads.keeps hW (by simp)) (hr.keeps hW (by simp)) (by omega)
  have hful := h.full
  have hlast : ∀ j, j < 3 → (L ++ List.replicate 3 x)[L.length + j]? = some x := fun j hj => by rw [List.getElem?_append_right (by omega), List.getElem?_replicate, if_pos (by omega)]
  obtain ⟨n, hn⟩ : ∃ n, L.length = n := ⟨_, rfl⟩
  rw [hn] at hpl hr hl hlast hful ⊢
  obtain ⟨ki, da, tr⟩ := x
  simp only [Ln.agg]
  have hbS : ∀ W, Keeps (fun _ => False) (w.alloc (.cells #[.int .i64 ki, .int .i64 da, .int .i64 tr] 30)) W → bxL w.heap.size ki da tr W := fun W hW => bxL.of (box_old (heap_alloc_new w _) hW (by simp))
  have Hr := Lib.hid hr; clear hr; have Hn := Lib.hid hn; clear hn; have HbS := Lib.hid hbS; clear hbS; have H := Lib.hid h; clear h; have Hpl := Lib.hid hpl; clear hpl; have Hlast := Lib.hid hlast; clear hlast; have Hful := Lib.hid hful; clear hful
  go_enter Tryd.func20, Tryd.ntmps20
  go_wp2_with (go_at_call 39; refine (Hpl.out _ (Keeps.alloc _ _)).mono ?_; rintro e w1 ⟨rfl, hk1⟩; have Hk1 := Lib.hid hk1; clear hk1)
  go_loopw [8] (fun c wr => ∃ (j : Nat), j ≤ 3 ∧ c = .int .i64 ((n + j : Nat) : Int) ∧ Keeps (fun _ => False) (w.alloc (.cells #[.int .i64 ki, .int .i64 da, .int .i64 tr] 30)) wr) (fun c _ => n + 3 - (intOf c).toNat)
  case atStart => exact ⟨0, by omega, by simp, Hk1.out⟩
  case round =>
    obtain ⟨j, hj, rfl, hk⟩ := hrel
    by_cases hj3 : j < 3
    · have hjl : ((n + j : Nat) : Int) < (n : Int) + 3 := by omega
      have p0 : (0 : Int) ≤ (n : Int) + (j : Int) := by omega
      have p1 : (n : Int) + (j : Int) < (n : Int) + 3 := by omega
      have p2 : ((n : Int) + (j : Int)).toNat = n + j := by omega
      have hjI : ((n + j : Nat) : Int) < ((n + 3 : Nat) : Int) := by omega
      obtain ⟨g', o', c', he, hc⟩ := (Hful.out.keeps ((Keeps.alloc w _).nt (hk.nt (Keeps.drew wr))) (by simp)).elem Ln.cells_length (Hlast.out j hj3) (by decide)
      simp only [Value.slice.injEq, true_and, Option.some.injEq, Addr.mk.injEq, and_true] at he
      obtain ⟨⟨rfl, rfl⟩, rfl⟩ := he
      have hS : sixS g ((n + j) * 3) w.heap.size ki da tr wr.drew := by
        obtain ⟨b0, b1, b2⟩ := HbS.out _ (hk.nt (Keeps.drew wr))
        have d0 := hc 0 (by decide)
        have d1 := hc 1 (by decide)
        have d2 := hc 2 (by decide)
        simp only [Nat.zero_add, Nat.add_zero] at d0 d1 d2
        exact ⟨d0, d1, d2, b0, b1, b2⟩
      clear hc
      have Hk := Lib.hid hk; clear hk; have HS := Lib.hid hS; clear hS
      go_wp2_with fail
      refine wp_region_mixw (sixS g ((n + j) * 3) w.heap.size ki da tr) (.take 0 (.take 1 (.take 2 (.take 3 (.take 4 (.take 5 .done)))))) (by kernel_rfl) (by kernel_rfl) ?_ ?_
      · exact HS.out
      intro w2 hs2 hk2
      repeat (first
        | (refine mix_skip rfl (by rfl) ?_; try simp only [Act.put, List.setIfInBounds_toArray, List.set_cons_zero, List.set_cons_succ])
        | (refine mix_skipm rfl (by rfl) ?_; try simp only [Act.put, List.setIfInBounds_toArray, List.set_cons_zero, List.set_cons_succ])
        | (refine mix_take (v := ?_) rfl (by rfl) ?_ ?_; rotate_left; (· intro w' hSw; unfold sixS at hSw; go_simp; (try with_reducible rfl)); rotate_right; try simp only [Act.put, List.setIfInBounds_toArray, List.set_cons_zero, List.set_cons_succ]))
      refine mix_done ?_
      have Hk2 := Lib.hid (Hk.out.nt hk2)
      clear hs2 hk2
      go_wp2_with fail
      go_roundw
      case rel => exact ⟨j + 1, by omega, by go_num, Hk2.out⟩
      case measure => simp [intOf]; omega
    · obtain rfl : j = 3 := by omega
      have hkw := (Keeps.alloc w _).nt hk
      have Hk := Lib.hid hk; clear hk; have Hkw := Lib.hid hkw; clear hkw
      go_wp2
      go_ret
      exact ⟨rfl, Hkw.out⟩
end Go.Proofs.YthokcmbgamanbaaDoor
