/- The helpers Plain, Own and Kept at events. -/
import Derived.Test.YtelhlbplbkglkaaFits
import Derived.Test.YtelhlbplbkglkaaDelEv2
import Derived.Test.YtelhlbplbkglkaaRDat
namespace Go.Proofs.Ytelhlbplbkglkaa
open Go.RowKit
set_option maxRecDepth 100000 in
set_option maxHeartbeats 400000 in
theorem plainEv1_same (a0 : Int) (a1 : Int) (a2 : Int) (a3 : Int) (a4 : Int) (w : World) : Calls Try.prog 46 #[.agg #[.int .i64 a0, .int .i64 a1, .int .i64 a2, .int .i64 a3, .int .i64 a4], .agg #[.int .i64 a0, .int .i64 a1, .int .i64 a2, .int .i64 a3, .int .i64 a4]] w
    fun e w' => e = .returned (.bool true) ∧ Keeps (fun _ => False) w w' := by
  go_enter Try.func46, Try.ntmps46
  go_wp2
  go_ret
  exact ⟨rfl, (Keeps.alloc _ _).trans (Keeps.alloc _ _)⟩
set_option maxRecDepth 100000 in
set_option maxHeartbeats 400000 in
theorem sameEv_same (L : List Ev) (v1 v2 : Value) (w : World) (h1 : Reads w 5 v1 L.length (L.flatMap Ev.cells)) (h2 : Reads w 5 v2 L.length (L.flatMap Ev.cells)) (hl : L.length ≤ 1000000000000) :
    Calls Try.prog 45 #[v1, v2, .func (.func 46) #[] #[]] w fun e w' => e = .returned (.bool true) ∧ Keeps (fun _ => False) w w' := by
  have g1 := h1
  have g2 := h2
  obtain ⟨ad1, c1, rfl, _, _⟩ := g1
  obtain ⟨ad2, c2, rfl, _, _⟩ := g2
  have H1 := Lib.hid h1; clear h1; have H2 := Lib.hid h2; clear h2
  go_enter Try.func45, Try.ntmps45
  go_wp2
  go_loopw [7] (fun i wr => ∃ k : Nat, k ≤ L.length ∧ i = .int .i64 k ∧ Keeps (fun _ => False) w wr) (fun i _ => L.length - (intOf i).toNat)
  case atStart => exact ⟨0, Nat.zero_le _, rfl, Keeps.refl _ _⟩
  case round =>
    obtain ⟨k, hk, rfl, hkp⟩ := hrel
    have Hkp := Lib.hid hkp; clear hkp
    by_cases hlt : k < L.length
    · obtain ⟨x, hx⟩ : ∃ x, L[k]? = some x := ⟨L[k], List.getElem?_eq_getElem hlt⟩
      obtain ⟨g, o, c, he, hc⟩ := (H1.out.keeps Hkp.out (by simp)).elem Ev.cells_length hx (by decide)
      obtain ⟨g', o', c', he', hc'⟩ := (H2.out.keeps Hkp.out (by simp)).elem Ev.cells_length hx (by decide)
      simp only [Value.slice.injEq, true_and] at he he'
      obtain ⟨rfl, rfl⟩ := he
      obtain ⟨rfl, rfl⟩ := he'
      obtain ⟨e0, e1, e2, e3, e4⟩ := x
      have x0 : wr.cell? ⟨g, o + k * 5, none⟩ = some (.int .i64 e0) := hc 0 (by decide)
      have x1 : wr.cell? ⟨g, o + k * 5 + 1, none⟩ = some (.int .i64 e1) := hc 1 (by decide)
      have x2 : wr.cell? ⟨g, o + k * 5 + 2, none⟩ = some (.int .i64 e2) := hc 2 (by decide)
      have x3 : wr.cell? ⟨g, o + k * 5 + 3, none⟩ = some (.int .i64 e3) := hc 3 (by decide)
      have x4 : wr.cell? ⟨g, o + k * 5 + 4, none⟩ = some (.int .i64 e4) := hc 4 (by decide)
      have y0 : wr.cell? ⟨g', o' + k * 5, none⟩ = some (.int .i64 e0) := hc' 0 (by decide)
      have y1 : wr.cell? ⟨g', o' + k * 5 + 1, none⟩ = some (.int .i64 e1) := hc' 1 (by decide)
      have y2 : wr.cell? ⟨g', o' + k * 5 + 2, none⟩ = some (.int .i64 e2) := hc' 2 (by decide)
      have y3 : wr.cell? ⟨g', o' + k * 5 + 3, none⟩ = some (.int .i64 e3) := hc' 3 (by decide)
      have y4 : wr.cell? ⟨g', o' + k * 5 + 4, none⟩ = some (.int .i64 e4) := hc' 4 (by decide)
      clear hc hc'
      have Hx := Lib.hid hx; clear hx
      go_wp2
      go_still_tail 9, (by kernel_rfl)
      go_wp2_with (go_at_call 46; refine (plainEv1_same _ _ _ _ _ _).mono ?_; rintro e w' ⟨rfl, hk2⟩; have Hk2 := Lib.hid hk2; clear hk2)
      go_roundw
      case rel => exact ⟨k + 1, by omega, by go_num, (Hkp.out.trans ((Keeps.drew _).trans (Hk2.out.mono (by simp))))⟩
      case measure => simp [intOf]; omega
    · go_wp2
      go_ret
      exact ⟨rfl, Hkp.out⟩
set_option maxRecDepth 100000 in
set_option maxHeartbeats 400000 in
theorem plainEv_same (L : List Ev) (v1 v2 : Value) (w : World) (h1 : Reads w 5 v1 L.length (L.flatMap Ev.cells)) (h2 : Reads w 5 v2 L.length (L.flatMap Ev.cells)) (hl : L.length ≤ 1000000000000) :
    Calls Try.prog 20 #[v1, v2] w fun e w' => e = .returned (.bool true) ∧ Keeps (fun _ => False) w w' := by
  have H1 := Lib.hid h1; clear h1; have H2 := Lib.hid h2; clear h2
  go_enter Try.func20, Try.ntmps20
  go_wp2_with (go_at_call 45; refine (sameEv_same L _ _ _ H1.out H2.out hl).mono ?_; rintro e w' ⟨rfl, hk2⟩; have Hk2 := Lib.hid hk2; clear hk2)
  go_ret
  exact ⟨rfl, Hk2.out⟩
def ev0 : Ev := ⟨0, 0, 0, 0, 0⟩
theorem made_evs (m : Nat) : (madeCells (Value.agg #[.int .i64 0, .int .i64 0, .int .i64 0, .int .i64 0, .int .i64 0]).cells (m * 5)).toList = (List.replicate m ev0).flatMap Ev.cells := by
  have hL : ((List.replicate m ev0).flatMap Ev.cells).length = m * 5 := by rw [flat_length Ev.cells_length]; simp
  have hM : (madeCells (Value.agg #[.int .i64 0, .int .i64 0, .int .i64 0, .int .i64 0, .int .i64 0]).cells (m * 5)).toList.length = m * 5 := by simp [madeCells]
  apply List.ext_getElem?
  intro i
  by_cases h : i < m * 5
  · have h5 : i % 5 < 5 := Nat.mod_lt _ (by decide)
    have h2 : ((List.replicate m ev0).flatMap Ev.cells)[i]? = some (.int .i64 0) := by
      have := flat_get Ev.cells_length (L := List.replicate m ev0) (k := i / 5) (j := i % 5) (x := ev0) (by rw [List.getElem?_replicate, if_pos (by omega)]) h5
      rw [show i / 5 * 5 + i % 5 = i by omega] at this
      rw [this]
      rcases (show i % 5 = 0 ∨ i % 5 = 1 ∨ i % 5 = 2 ∨ i % 5 = 3 ∨ i % 5 = 4 by omega) with h | h | h | h | h <;> rw [h] <;> rfl
    rw [h2]
    rw [List.getElem?_eq_getElem (by rw [hM]; exact h)]
    simp only [madeCells, Array.toList_map, List.getElem_map, Array.toList_range, List.getElem_range, Value.cells]
    rcases (show i % 5 = 0 ∨ i % 5 = 1 ∨ i % 5 = 2 ∨ i % 5 = 3 ∨ i % 5 = 4 by omega) with h | h | h | h | h <;> simp [h]
  · rw [List.getElem?_eq_none (by omega), List.getElem?_eq_none (by omega)]
/-- What Own gives: a row of its own with three more behind it. -/
structure OwnE (w : World) (g : Nat) (L : List Ev) (x : Ev) : Prop where
  row : w.ownsRow 0 34 5 (.slice (some ⟨g, 0, none⟩) (L.length + 3) (L.length + 3)) (L.length + 3) ((L ++ List.replicate 3 x).flatMap Ev.cells)
theorem OwnE.keep {w w' : World} {g : Nat} {L : List Ev} {x : Ev} (h : OwnE w g L x) (hk : Keeps (fun _ => False) w w') : OwnE w' g L x := ⟨h.row.of_keeps hk⟩
theorem OwnE.full {w : World} {g : Nat} {L : List Ev} {x : Ev} (h : OwnE w g L x) : Reads w 5 (.slice (some ⟨g, 0, none⟩) (L.length + 3) (L.length + 3)) (L.length + 3) ((L ++ List.replicate 3 x).flatMap Ev.cells) := Reads.of_owns h.row
theorem OwnE.reads {w : World} {g : Nat} {L : List Ev} {x : Ev} (h : OwnE w g L x) : Reads w 5 (.slice (some ⟨g, 0, none⟩) L.length (L.length + 3)) L.length (L.flatMap Ev.cells) := by
  have := h.full.preL Ev.cells_length L.length (by omega)
  rwa [List.take_append_of_le_length (Nat.le_refl _), List.take_length] at this
theorem rep_snocE (L : List Ev) (x z : Ev) (j m : Nat) : (L ++ List.replicate j x ++ List.replicate (m + 1) z).set (L.length + j) x = L ++ List.replicate (j + 1) x ++ List.replicate m z := rep_snoc L x z j m
set_option maxRecDepth 100000 in
set_option maxHeartbeats 1600000 in
theorem ownEv_any (w : World) (ad : Option Addr) (cap : Nat) (L : List Ev) (x : Ev) (hr : Reads w 5 (.slice ad L.length cap) L.length (L.flatMap Ev.cells)) (hl : L.length ≤ 1000000) :
    Calls Try.prog 24 #[.slice ad L.length cap, x.agg] w fun e w' => e = .returned (.slice (some ⟨w.heap.size + 1, 0, none⟩) L.length (L.length + 3)) ∧ OwnE w' (w.heap.size + 1) L x ∧ Keeps (fun _ => False) w w' := by
  obtain ⟨i0, hi, hi0, hi1, hi2⟩ := info_parts info_tEvent
  obtain ⟨n, hn⟩ : ∃ n, L.length = n := ⟨_, rfl⟩
  rw [hn] at hr hl ⊢
  have hmk := fun (W : World) => run_makeSlice (P := Try.prog) W 35 34 i0 (.agg #[.int .i64 0, .int .i64 0, .int .i64 0, .int .i64 0, .int .i64 0]) Try.underlying35 hi hi0 .i64 .i64 0 ((n : Int) + 3) (by omega) (by omega) (by rw [hi1]; omega) (by rw [hi2]; omega) (by omega)
  have hn3 : ((n : Int) + 3).toNat = n + 3 := by omega
  simp only [hn3, Int.toNat_zero, hi1] at hmk
  obtain ⟨Z, hZ⟩ : ∃ Z, Z = madeCells (Value.agg #[.int .i64 0, .int .i64 0, .int .i64 0, .int .i64 0, .int .i64 0]).cells ((n + 3) * 5) := ⟨_, rfl⟩
  rw [← hZ] at hmk
  have hZl : Z.toList = (List.replicate (n + 3) ev0).flatMap Ev.cells := by rw [hZ]; exact made_evs _
  have hone := Ev.one L
  obtain ⟨ki, da, tr, am, re⟩ := x
  simp only [Ev.agg]
  have hbS : ∀ W, Keeps (fun _ => False) (w.alloc (.cells #[.int .i64 ki, .int .i64 da, .int .i64 tr, .int .i64 am, .int .i64 re] 34)) W → bxS w.heap.size ki da tr am re W := fun W hW => bxS.of (box_old (heap_alloc_new w _) hW (by simp))
  have Hr := Lib.hid hr; clear hr; have HZ := Lib.hid hZ; clear hZ; have HZl := Lib.hid hZl; clear hZl; have Hn3 := Lib.hid hn3; clear hn3; have Hone := Lib.hid hone; clear hone; have Hn := Lib.hid hn; clear hn; have HbS := Lib.hid hbS; clear hbS
  go_enter Try.func24, Try.ntmps24
  go_wp2_with (at_builtin; refine wpList_append_fits rfl (.tmp 12) (.tmp 13) 35 rfl 34 i0 5 Try.underlying35 hi hi1 (w.heap.size + 1) 0 (n + 3) Z.toList rfl (halloc_at _ (.cells Z 34) (by simp)) (by rw [HZl.out, flat_length Ev.cells_length]; simp) (by unfold maxLen; omega) _ n _ rfl ((Hr.out.alloc _).alloc _) Hone.out (by omega) ?_)
  intro w2 hb2 hk2
  have hkb : Keeps (fun _ => False) (w.alloc (.cells #[.int .i64 ki, .int .i64 da, .int .i64 tr, .int .i64 am, .int .i64 re] 34)) w2 := (Keeps.alloc _ _).trans (hk2.mono fun k _ e => by right; simp; omega)
  have hrow : w2.ownsRow 0 34 5 (.slice (some ⟨w.heap.size + 1, 0, none⟩) (n + 3) (n + 3)) (n + 3) ((L ++ List.replicate 0 (⟨ki, da, tr, am, re⟩ : Ev) ++ List.replicate 3 ev0).flatMap Ev.cells) := by
    have hlen : ((L ++ List.replicate 0 (⟨ki, da, tr, am, re⟩ : Ev) ++ List.replicate 3 ev0).flatMap Ev.cells).length = (n + 3) * 5 := by rw [flat_length Ev.cells_length]; simp [Hn.out]
    have e0 : laid Z.toList (0 * 5) (L.flatMap Ev.cells) = (L ++ List.replicate 0 (⟨ki, da, tr, am, re⟩ : Ev) ++ List.replicate 3 ev0).flatMap Ev.cells := by
      unfold laid
      rw [HZl.out]
      have e1 := flat_dropk Ev.cells_length (List.replicate (n + 3) ev0) n
      have e2 : (L.flatMap Ev.cells).length = n * 5 := by rw [flat_length Ev.cells_length, Hn.out]
      simp only [Nat.zero_mul, List.take_zero, List.nil_append, Nat.zero_add, e2, e1, List.drop_replicate, List.replicate_zero, List.append_nil, List.flatMap_append]
      rw [show n + 3 - n = 3 by omega]
    refine ⟨hlen, .inr ⟨_, _, _, rfl, Nat.zero_le _, hb2, Nat.le_refl _, by unfold maxLen; omega, ?_, ?_⟩⟩
    · rw [e0, List.size_toArray, hlen]
    · rw [e0, List.take_of_length_le (by rw [hlen]; exact Nat.le_refl _)]
  have Hkb := Lib.hid hkb; clear hkb; have Hrow := Lib.hid hrow; clear hrow
  clear hb2 hk2
  clear hmk
  go_wp2
  go_loopw [7] (fun c wr => ∃ (j : Nat), j ≤ 3 ∧ c = .int .i64 ((n + j : Nat) : Int) ∧ wr.ownsRow 0 34 5 (.slice (some ⟨w.heap.size + 1, 0, none⟩) (n + 3) (n + 3)) (n + 3) ((L ++ List.replicate j (⟨ki, da, tr, am, re⟩ : Ev) ++ List.replicate (3 - j) ev0).flatMap Ev.cells) ∧ Keeps (fun _ => False) (w.alloc (.cells #[.int .i64 ki, .int .i64 da, .int .i64 tr, .int .i64 am, .int .i64 re] 34)) wr) (fun c _ => n + 3 - (intOf c).toNat)
  case atStart => exact ⟨0, by omega, by simp, Hrow.out, Hkb.out⟩
  case round =>
    obtain ⟨j, hj, rfl, hrow, hk⟩ := hrel
    by_cases hj3 : j < 3
    · obtain ⟨m, hm⟩ : ∃ m, 3 - j = m + 1 := ⟨3 - j - 1, by omega⟩
      have hll : (L ++ List.replicate j (⟨ki, da, tr, am, re⟩ : Ev) ++ List.replicate (3 - j) ev0).length = n + 3 := by simp [Hn.out]; omega
      have hst := owns_storeEv hrow hll (k := n + j) (by omega) ki da tr am re
      have hset : (L ++ List.replicate j (⟨ki, da, tr, am, re⟩ : Ev) ++ List.replicate (3 - j) ev0).set (n + j) ⟨ki, da, tr, am, re⟩ = L ++ List.replicate (j + 1) (⟨ki, da, tr, am, re⟩ : Ev) ++ List.replicate (3 - (j + 1)) ev0 := by
        rw [hm, ← Hn.out, rep_snoc, show 3 - (j + 1) = m by omega]
      rw [hset] at hst
      obtain ⟨y, hy⟩ := get_some (L := L ++ List.replicate j (⟨ki, da, tr, am, re⟩ : Ev) ++ List.replicate (3 - j) ev0) (k := n + j) (by rw [hll]; omega)
      obtain ⟨g', o', c', he, hc⟩ := (Reads.of_owns hrow).elem Ev.cells_length hy (by decide)
      simp only [Value.slice.injEq, true_and, Option.some.injEq, Addr.mk.injEq, and_true] at he
      obtain ⟨⟨rfl, rfl⟩, rfl⟩ := he
      obtain ⟨y0, y1, y2, y3, y4⟩ := y
      have hbx := HbS.out _ hk
      obtain ⟨b0, b1, b2, b3, b4⟩ := hbx
      have d0 : wr.cell? ⟨w.heap.size + 1, (n + j) * 5, none⟩ = some (.int .i64 y0) := by have := hc 0 (by decide); rwa [Nat.zero_add] at this
      have d1 : wr.cell? ⟨w.heap.size + 1, (n + j) * 5 + 1, none⟩ = some (.int .i64 y1) := by have := hc 1 (by decide); rwa [Nat.zero_add] at this
      have d2 : wr.cell? ⟨w.heap.size + 1, (n + j) * 5 + 2, none⟩ = some (.int .i64 y2) := by have := hc 2 (by decide); rwa [Nat.zero_add] at this
      have d3 : wr.cell? ⟨w.heap.size + 1, (n + j) * 5 + 3, none⟩ = some (.int .i64 y3) := by have := hc 3 (by decide); rwa [Nat.zero_add] at this
      have d4 : wr.cell? ⟨w.heap.size + 1, (n + j) * 5 + 4, none⟩ = some (.int .i64 y4) := by have := hc 4 (by decide); rwa [Nat.zero_add] at this
      have hfree : ∀ i, wr.frozen? ⟨w.heap.size + 1, i, none⟩ = false := by
        rcases hrow.2 with ⟨h0, _⟩ | ⟨g1, cap1, cur, h0, _, hh, _⟩
        · simp at h0
        · simp only [Value.slice.injEq, Option.some.injEq, Addr.mk.injEq, and_true, true_and] at h0
          obtain ⟨rfl, _⟩ := h0
          exact fun i => free_of_cells hh i
      have f0 := hfree ((n + j) * 5)
      have f1 := hfree ((n + j) * 5 + 1)
      have f2 := hfree ((n + j) * 5 + 2)
      have f3 := hfree ((n + j) * 5 + 3)
      have f4 := hfree ((n + j) * 5 + 4)
      have hbl := own_lt hrow (g := w.heap.size + 1) rfl
      have hbl2 : w.heap.size < wr.heap.size := by omega
      have hkn := hk.trans ((keeps_storeEv wr (w.heap.size + 1) ((n + j) * 5) ((n + j) * 5 + 1) ((n + j) * 5 + 2) ((n + j) * 5 + 3) ((n + j) * 5 + 4) (.int .i64 ki) (.int .i64 da) (.int .i64 tr) (.int .i64 am) (.int .i64 re)).mono fun i _ e => by right; simp; omega)
      have hjl : ((n + j : Nat) : Int) < (n : Int) + 3 := by omega
      clear hc hfree
      have Hrow := Lib.hid hrow; clear hrow; have Hk := Lib.hid hk; clear hk; have Hst := Lib.hid hst; clear hst; have Hkn := Lib.hid hkn; clear hkn; have Hm := Lib.hid hm; clear hm; have Hset := Lib.hid hset; clear hset; have Hll := Lib.hid hll; clear hll; have Hy := Lib.hid hy; clear hy
      go_wp2
      go_roundw
      case rel => exact ⟨j + 1, by omega, by go_num, Hst.out, Hkn.out⟩
      case measure => simp [intOf]; omega
    · obtain rfl : j = 3 := by omega
      have hkw := (Keeps.alloc w _).nt hk
      have Hrow := Lib.hid hrow; clear hrow; have Hk := Lib.hid hk; clear hk; have Hkw := Lib.hid hkw; clear hkw
      go_wp2
      go_ret
      exact ⟨rfl, ⟨by have := Hrow.out; rw [Hn.out]; simpa using this⟩, Hkw.out⟩
end Go.Proofs.Ytelhlbplbkglkaa
