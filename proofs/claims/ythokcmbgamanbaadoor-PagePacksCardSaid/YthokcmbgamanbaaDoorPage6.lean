/- The walks of the page layer: a statement as bytes. -/
import Derived.Test.YthokcmbgamanbaaDoorPage3
import Derived.Test.YthokcmbgamanbaaDoorPage4
import Derived.Test.YthokcmbgamanbaaDoorPage5
namespace Go.Proofs.YthokcmbgamanbaaDoor
open Go.RowKit
/-- A row of bytes that the call made. -/
structure Fr (w wr : World) (v : Value) (C : List Int) : Prop where
  row : wr.ownsRow 0 5 1 v C.length (C.flatMap u8c)
  kp : Keeps (fun _ => False) w wr
  nw : ∀ g, v.ownBlock = some g → w.heap.size ≤ g
theorem Fr.keep {w wr wr' : World} {v : Value} {C : List Int} (h : Fr w wr v C) (hk : Keeps (fun _ => False) wr wr') : Fr w wr' v C := ⟨hk.row h.row (by simp), h.kp.trans (hk.mono (by simp)), h.nw⟩
theorem Fr.grow {w wr w4 : World} {v v4 : Value} {C C' : List Int} (h : Fr w wr v C) (hg : Grown wr w4 v v4 C') : Fr w w4 v4 C' := by
  have hs := h.kp.size
  refine ⟨hg.row, h.kp.trans (hg.kp.mono fun k _ hk => .inr (h.nw k hk)), fun g hgb => ?_⟩
  rcases hg.nw with e | ⟨g', h1, h2⟩
  · exact h.nw g (by rw [← e]; exact hgb)
  · rw [h1] at hgb; simp only [Option.some.injEq] at hgb; omega
theorem Fr.nil (w : World) : Fr w w (.slice none 0 0) [] := ⟨World.ownsRow_nil _ _ _ _, Keeps.refl _ _, by simp [Value.ownBlock]⟩
theorem widePut_lit {w wr : World} {v : Value} {C : List Int} {B : Nat} (hB : B = wr.heap.size) (t : TypeId) (cs : Array Value) (L : List Int) (hcs : cs.toList = L.flatMap i64c) (h : Fr w wr v C) (hl : C.length + 8 * L.length ≤ 1000000) :
    Calls Tryd.prog 22 #[v, .slice (some ⟨B, 0, none⟩) L.length L.length] (wr.alloc (.cells cs t)) fun e w' => ∃ v', e = .returned v' ∧ Fr w w' v' (C ++ packN L) ∧ Keeps (fun k => v.ownBlock = some k) wr w' := by
  subst hB
  have hsz : cs.size = L.length * 1 := by rw [← Array.length_toList, hcs, flat_length i64c_length]
  have hr : Reads (wr.alloc (.cells cs t)) 1 (.slice (some ⟨wr.heap.size, 0, none⟩) L.length L.length) L.length (L.flatMap i64c) := by
    have := Reads.litAt wr cs t 1 L.length _ rfl hsz
    rw [hcs] at this; exact this
  refine (widePut_any v C _ _ L (wr.alloc (.cells cs t)) (h.row.alloc _) hr (fun g hg hv => ?_) hl).mono ?_
  · simp only [Value.ownBlock, Option.some.injEq] at hg
    have := (h.row.lt _ hv).2; omega
  · rintro e w' ⟨v', rfl, hg⟩
    exact ⟨v', rfl, (h.keep (Keeps.alloc _ _)).grow hg, (Keeps.alloc _ _).trans (hg.kp.mono fun _ _ h => .inl h)⟩
theorem widePut3 {w wr : World} {v : Value} {C : List Int} {B : Nat} (hB : B = wr.heap.size) (t : TypeId) (a b c : Int) (h : Fr w wr v C) (hl : C.length ≤ 900000) :
    Calls Tryd.prog 22 #[v, .slice (some ⟨B, 0, none⟩) 3 3] (wr.alloc (.cells #[.int .i64 a, .int .i64 b, .int .i64 c] t)) fun e w' => ∃ v', e = .returned v' ∧ Fr w w' v' (C ++ packN [a, b, c]) ∧ Keeps (fun k => v.ownBlock = some k) wr w' :=
  widePut_lit hB t _ [a, b, c] rfl h (by simp; omega)
theorem widePut9 {w wr : World} {B : Nat} (hB : B = wr.heap.size) (t : TypeId) (a b c d e f g i j : Int) (hk : Keeps (fun _ => False) w wr) :
    Calls Tryd.prog 22 #[.slice none 0 0, .slice (some ⟨B, 0, none⟩) 9 9] (wr.alloc (.cells #[.int .i64 a, .int .i64 b, .int .i64 c, .int .i64 d, .int .i64 e, .int .i64 f, .int .i64 g, .int .i64 i, .int .i64 j] t)) fun e' w' => ∃ v', e' = .returned v' ∧ Fr w w' v' (packN [a, b, c, d, e, f, g, i, j]) ∧ Keeps (fun _ => False) wr w' :=
  (widePut_lit (C := []) hB t _ [a, b, c, d, e, f, g, i, j] rfl ((Fr.nil w).keep hk) (by simp)).mono fun _ _ ⟨v, h1, h2, h3⟩ => ⟨v, h1, h2, h3.mono fun k _ h => by simp [Value.ownBlock] at h⟩
def packErr (s : Stm) : Int := if s.rightB then 0 else 4
def packB (s : Stm) : List Int := if s.rightB then packN s.nums else []
def PackPost (s : Stm) (w : World) (e : Ending) (w' : World) : Prop := ∃ v, e = .returned (.tuple #[v, .int .i64 (packErr s)]) ∧ Fr w w' v (packB s)
theorem lines_nums_snoc {L : List Ln} {j : Nat} {x : Ln} (h : L[j]? = some x) : (L.take (j + 1)).flatMap Ln.nums = (L.take j).flatMap Ln.nums ++ [x.balance, x.interest, x.rate] := by
  rw [take_snoc' h, List.flatMap_append]; simp [Ln.nums]
theorem Keeps.none_trans {a b c : World} (h : Keeps (fun _ => False) a b) (k : Keeps (fun _ => False) b c) : Keeps (fun _ => False) a c := h.trans (k.mono (by simp))
set_option maxRecDepth 100000 in
set_option maxHeartbeats 1600000 in
theorem pagePack_wrong (s : Stm) (ad : Option Addr) (cap : Nat) (w : World) (hr : Reads w 3 (.slice ad s.lines.length cap) s.lines.length (s.lines.flatMap Ln.cells)) (hl : s.lines.length ≤ 1000000) (hw : s.rightB = false) :
    Calls Tryd.prog 7 #[s.val (.slice ad s.lines.length cap)] w (PackPost s w) := by
  have hright := pageRight_any s ad cap (w.alloc (.cells #[.int .i64 s.cycle, .int .i64 s.fr, .int .i64 s.te, .int .i64 s.due, .slice ad s.lines.length cap, .int .i64 s.total, .int .i64 s.credit, .int .i64 s.min, .bool s.grace] 26)) (hr.alloc _) hl
  have hp : PackPost s w = fun e w' => ∃ v, e = .returned (.tuple #[v, .int .i64 4]) ∧ Fr w w' v [] := by unfold PackPost packErr packB; rw [hw]; rfl
  rw [hp]
  rw [hw] at hright
  clear hp
  obtain ⟨cy, fr, to, du, tot, cr, mi, gr, L⟩ := s
  simp only [Stm.val] at hright hr hl ⊢
  have Hr := Lib.hid hr; clear hr; have Hright := Lib.hid hright; clear hright; have Hw := Lib.hid hw; clear hw
  go_enter Tryd.func7, Tryd.ntmps7
  go_wp2_with (go_at_call 9; refine Hright.out.mono ?_; rintro e w1 ⟨rfl, hk⟩; have Hk := Lib.hid hk; clear hk)
  go_ret2
  exact ⟨_, rfl, (Fr.nil w).keep ((Keeps.alloc _ _).none_trans Hk.out)⟩
set_option maxRecDepth 100000 in
set_option maxHeartbeats 3200000 in
theorem pagePack_ok (s : Stm) (ad : Option Addr) (cap : Nat) (w : World) (hr : Reads w 3 (.slice ad s.lines.length cap) s.lines.length (s.lines.flatMap Ln.cells)) (hl : s.lines.length ≤ 1000000) (hw : s.rightB = true) :
    Calls Tryd.prog 7 #[s.val (.slice ad s.lines.length cap)] w (PackPost s w) := by
  have hright := pageRight_any s ad cap (w.alloc (.cells #[.int .i64 s.cycle, .int .i64 s.fr, .int .i64 s.te, .int .i64 s.due, .slice ad s.lines.length cap, .int .i64 s.total, .int .i64 s.credit, .int .i64 s.min, .bool s.grace] 26)) (hr.alloc _) hl
  have hp : PackPost s w = fun e w' => ∃ v, e = .returned (.tuple #[v, .int .i64 0]) ∧ Fr w w' v (packN s.nums) := by unfold PackPost packErr packB; rw [hw]; rfl
  rw [hp]
  rw [hw] at hright
  clear hp
  have hl8 := (Stm.right_of hw).len.2
  obtain ⟨cy, fr, to, du, tot, cr, mi, gr, L⟩ := s
  simp only [Stm.val] at hright hr hl hl8 ⊢
  clear hl
  have Hr := Lib.hid hr; clear hr; have Hright := Lib.hid hright; clear hright; have Hw := Lib.hid hw; clear hw
  rcases gr with _ | _
  ·
    go_enter Tryd.func7, Tryd.ntmps7
    go_wp2_with fail
    refine Hright.out.mono ?_
    rintro e w1 ⟨rfl, hk1⟩
    have hb := box_new hk1 (by simp)
    have b0 := cell_of_cells hb 0
    have b1 := cell_of_cells hb 1
    have b2 := cell_of_cells hb 2
    have b3 := cell_of_cells hb 3
    have b4 := cell_of_cells hb 4
    have b5 := cell_of_cells hb 5
    have b6 := cell_of_cells hb 6
    have b7 := cell_of_cells hb 7
    have b8 := cell_of_cells hb 8
    have hbl := lt_of_block hb
    have hk01 : Keeps (fun _ => False) w w1 := (Keeps.alloc _ _).none_trans hk1
    have Hb := Lib.hid hb; clear hb; have Hk01 := Lib.hid hk01; clear hk01
    clear hk1
    go_wp2_with (go_at_call 22; ((with_reducible refine (widePut9 rfl _ _ _ _ _ _ _ _ _ _ Hk01.out).mono ?_); rintro e w2 ⟨v2, rfl, hf2, hk2⟩; have hb2 := box_old Hb.out hk2 (by simp); have d4 := cell_of_cells hb2 4; have hbl2 := lt_of_block hb2; have Hf2 := Lib.hid hf2; clear hf2 hk2 hb2))
    go_loopw [5, 38] (fun a c wr => ∃ (j : Nat) (va : Value), j ≤ L.length ∧ c = .int .i64 (j : Nat) ∧ a = va ∧ Fr w wr va (packN ([cy, fr, to, du, tot, cr, mi, 0, (L.length : Int)] ++ (L.take j).flatMap Ln.nums))) (fun _ c _ => L.length - (intOf c).toNat)
    case atStart => exact ⟨0, _, Nat.zero_le _, rfl, rfl, Hf2.out⟩
    case round =>
      obtain ⟨j, va, hj, rfl, rfl, hfr⟩ := hrel
      by_cases hjl : j < L.length
      · obtain ⟨⟨xb, xi, xr⟩, hx⟩ := get_some hjl
        obtain ⟨g, o, c, he, hc⟩ := (Hr.out.keeps hfr.kp (by simp)).elem Ln.cells_length hx (by decide)
        simp only [Value.slice.injEq, true_and] at he
        obtain ⟨rfl, rfl⟩ := he
        have x0 : wr.cell? ⟨g, o + j * 3, none⟩ = some (.int .i64 xb) := hc 0 (by decide)
        have x1 : wr.cell? ⟨g, o + j * 3 + 1, none⟩ = some (.int .i64 xi) := hc 1 (by decide)
        have x2 : wr.cell? ⟨g, o + j * 3 + 2, none⟩ = some (.int .i64 xr) := hc 2 (by decide)
        obtain ⟨C, hC⟩ : ∃ C, packN ([cy, fr, to, du, tot, cr, mi, 0, (L.length : Int)] ++ (L.take j).flatMap Ln.nums) = C := ⟨_, rfl⟩
        have hCn : packN ([cy, fr, to, du, tot, cr, mi, 0, (L.length : Int)] ++ (L.take (j + 1)).flatMap Ln.nums) = C ++ packN [xb, xi, xr] := by rw [lines_nums_snoc hx, ← List.append_assoc, packN_append, hC]
        have hCl : C.length ≤ 900000 := by
          rw [← hC, packN_length]
          have e1 : ((L.take j).flatMap Ln.nums).length = (L.take j).length * 3 := by
            generalize L.take j = M
            induction M with
            | nil => rfl
            | cons a l ih => rw [List.flatMap_cons, List.length_append, ih]; simp [Ln.nums]; omega
          rw [List.length_append, e1, List.length_take]; simp; omega
        rw [hC] at hfr
        clear hc
        have Hx := Lib.hid hx; clear hx; have Hfr := Lib.hid hfr; clear hfr; have HC := Lib.hid hC; clear hC; have HCn := Lib.hid hCn; clear hCn
        go_wp2_with (go_at_call 22; ((with_reducible refine (widePut3 (w := w) (by simp) _ _ _ _ (Hfr.out.keep (Keeps.alloc _ _)) hCl).mono ?_); rintro e w3 ⟨v3, rfl, hf3, _⟩; have Hf3 := Lib.hid hf3; clear hf3))
        go_roundw
        case rel => exact ⟨j + 1, _, by omega, by go_num, rfl, by rw [HCn.out]; exact Hf3.out⟩
        case measure => simp [intOf]; omega
      · obtain rfl : j = L.length := by omega
        rw [List.take_length] at hfr
        have Hfr := Lib.hid hfr; clear hfr
        go_wp2
        go_ret2
        exact ⟨_, rfl, Hfr.out⟩
  ·
    go_enter Tryd.func7, Tryd.ntmps7
    go_wp2_with fail
    refine Hright.out.mono ?_
    rintro e w1 ⟨rfl, hk1⟩
    have hb := box_new hk1 (by simp)
    have b0 := cell_of_cells hb 0
    have b1 := cell_of_cells hb 1
    have b2 := cell_of_cells hb 2
    have b3 := cell_of_cells hb 3
    have b4 := cell_of_cells hb 4
    have b5 := cell_of_cells hb 5
    have b6 := cell_of_cells hb 6
    have b7 := cell_of_cells hb 7
    have b8 := cell_of_cells hb 8
    have hbl := lt_of_block hb
    have hk01 : Keeps (fun _ => False) w w1 := (Keeps.alloc _ _).none_trans hk1
    have Hb := Lib.hid hb; clear hb; have Hk01 := Lib.hid hk01; clear hk01
    clear hk1
    go_wp2_with (go_at_call 22; ((with_reducible refine (widePut9 rfl _ _ _ _ _ _ _ _ _ _ Hk01.out).mono ?_); rintro e w2 ⟨v2, rfl, hf2, hk2⟩; have hb2 := box_old Hb.out hk2 (by simp); have d4 := cell_of_cells hb2 4; have hbl2 := lt_of_block hb2; have Hf2 := Lib.hid hf2; clear hf2 hk2 hb2))
    go_loopw [5, 38] (fun a c wr => ∃ (j : Nat) (va : Value), j ≤ L.length ∧ c = .int .i64 (j : Nat) ∧ a = va ∧ Fr w wr va (packN ([cy, fr, to, du, tot, cr, mi, 1, (L.length : Int)] ++ (L.take j).flatMap Ln.nums))) (fun _ c _ => L.length - (intOf c).toNat)
    case atStart => exact ⟨0, _, Nat.zero_le _, rfl, rfl, Hf2.out⟩
    case round =>
      obtain ⟨j, va, hj, rfl, rfl, hfr⟩ := hrel
      by_cases hjl : j < L.length
      · obtain ⟨⟨xb, xi, xr⟩, hx⟩ := get_some hjl
        obtain ⟨g, o, c, he, hc⟩ := (Hr.out.keeps hfr.kp (by simp)).elem Ln.cells_length hx (by decide)
        simp only [Value.slice.injEq, true_and] at he
        obtain ⟨rfl, rfl⟩ := he
        have x0 : wr.cell? ⟨g, o + j * 3, none⟩ = some (.int .i64 xb) := hc 0 (by decide)
        have x1 : wr.cell? ⟨g, o + j * 3 + 1, none⟩ = some (.int .i64 xi) := hc 1 (by decide)
        have x2 : wr.cell? ⟨g, o + j * 3 + 2, none⟩ = some (.int .i64 xr) := hc 2 (by decide)
        obtain ⟨C, hC⟩ : ∃ C, packN ([cy, fr, to, du, tot, cr, mi, 1, (L.length : Int)] ++ (L.take j).flatMap Ln.nums) = C := ⟨_, rfl⟩
        have hCn : packN ([cy, fr, to, du, tot, cr, mi, 1, (L.length : Int)] ++ (L.take (j + 1)).flatMap Ln.nums) = C ++ packN [xb, xi, xr] := by rw [lines_nums_snoc hx, ← List.append_assoc, packN_append, hC]
        have hCl : C.length ≤ 900000 := by
          rw [← hC, packN_length]
          have e1 : ((L.take j).flatMap Ln.nums).length = (L.take j).length * 3 := by
            generalize L.take j = M
            induction M with
            | nil => rfl
            | cons a l ih => rw [List.flatMap_cons, List.length_append, ih]; simp [Ln.nums]; omega
          rw [List.length_append, e1, List.length_take]; simp; omega
        rw [hC] at hfr
        clear hc
        have Hx := Lib.hid hx; clear hx; have Hfr := Lib.hid hfr; clear hfr; have HC := Lib.hid hC; clear hC; have HCn := Lib.hid hCn; clear hCn
        go_wp2_with (go_at_call 22; ((with_reducible refine (widePut3 (w := w) (by simp) _ _ _ _ (Hfr.out.keep (Keeps.alloc _ _)) hCl).mono ?_); rintro e w3 ⟨v3, rfl, hf3, _⟩; have Hf3 := Lib.hid hf3; clear hf3))
        go_roundw
        case rel => exact ⟨j + 1, _, by omega, by go_num, rfl, by rw [HCn.out]; exact Hf3.out⟩
        case measure => simp [intOf]; omega
      · obtain rfl : j = L.length := by omega
        rw [List.take_length] at hfr
        have Hfr := Lib.hid hfr; clear hfr
        go_wp2
        go_ret2
        exact ⟨_, rfl, Hfr.out⟩
theorem pagePack_any (s : Stm) (ad : Option Addr) (cap : Nat) (w : World) (hr : Reads w 3 (.slice ad s.lines.length cap) s.lines.length (s.lines.flatMap Ln.cells)) (hl : s.lines.length ≤ 1000000) :
    Calls Tryd.prog 7 #[s.val (.slice ad s.lines.length cap)] w (PackPost s w) := by
  rcases hw : s.rightB with _ | _
  · exact pagePack_wrong s ad cap w hr hl hw
  · exact pagePack_ok s ad cap w hr hl hw
end Go.Proofs.YthokcmbgamanbaaDoor
