/- The walks of the page layer: held against each other; the law's awake. -/
import Derived.Test.YthokcmbgamanbaaDoorPage7
import Derived.Test.YthokcmbgamanbaaDoorConvB
namespace Go.Proofs.YthokcmbgamanbaaDoor
open Go.RowKit
set_option maxRecDepth 100000 in
set_option maxHeartbeats 400000 in
theorem plainLine1_same (a0 : Int) (a1 : Int) (a2 : Int) (w : World) : Calls Tryd.prog 49 #[.agg #[.int .i64 a0, .int .i64 a1, .int .i64 a2], .agg #[.int .i64 a0, .int .i64 a1, .int .i64 a2]] w
    fun e w' => e = .returned (.bool true) ∧ Keeps (fun _ => False) w w' := by
  go_enter Tryd.func49, Tryd.ntmps49
  go_wp2
  go_ret
  exact ⟨rfl, (Keeps.alloc _ _).trans (Keeps.alloc _ _)⟩
set_option maxRecDepth 100000 in
set_option maxHeartbeats 400000 in
theorem sameLine_same (L : List Ln) (v1 v2 : Value) (w : World) (h1 : Reads w 3 v1 L.length (L.flatMap Ln.cells)) (h2 : Reads w 3 v2 L.length (L.flatMap Ln.cells)) (hl : L.length ≤ 1000000000000) :
    Calls Tryd.prog 48 #[v1, v2, .func (.func 49) #[] #[]] w fun e w' => e = .returned (.bool true) ∧ Keeps (fun _ => False) w w' := by
  have g1 := h1
  have g2 := h2
  obtain ⟨ad1, c1, rfl, _, _⟩ := g1
  obtain ⟨ad2, c2, rfl, _, _⟩ := g2
  have H1 := Lib.hid h1; clear h1; have H2 := Lib.hid h2; clear h2
  go_enter Tryd.func48, Tryd.ntmps48
  go_wp2
  go_loopw [7] (fun i wr => ∃ k : Nat, k ≤ L.length ∧ i = .int .i64 k ∧ Keeps (fun _ => False) w wr) (fun i _ => L.length - (intOf i).toNat)
  case atStart => exact ⟨0, Nat.zero_le _, rfl, Keeps.refl _ _⟩
  case round =>
    obtain ⟨k, hk, rfl, hkp⟩ := hrel
    have Hkp := Lib.hid hkp; clear hkp
    by_cases hlt : k < L.length
    · obtain ⟨x, hx⟩ : ∃ x, L[k]? = some x := ⟨L[k], List.getElem?_eq_getElem hlt⟩
      obtain ⟨g, o, c, he, hc⟩ := (H1.out.keeps Hkp.out (by simp)).elem Ln.cells_length hx (by decide)
      obtain ⟨g', o', c', he', hc'⟩ := (H2.out.keeps Hkp.out (by simp)).elem Ln.cells_length hx (by decide)
      simp only [Value.slice.injEq, true_and] at he he'
      obtain ⟨rfl, rfl⟩ := he
      obtain ⟨rfl, rfl⟩ := he'
      obtain ⟨e0, e1, e2⟩ := x
      have x0 : wr.cell? ⟨g, o + k * 3, none⟩ = some (.int .i64 e0) := hc 0 (by decide)
      have x1 : wr.cell? ⟨g, o + k * 3 + 1, none⟩ = some (.int .i64 e1) := hc 1 (by decide)
      have x2 : wr.cell? ⟨g, o + k * 3 + 2, none⟩ = some (.int .i64 e2) := hc 2 (by decide)
      have y0 : wr.cell? ⟨g', o' + k * 3, none⟩ = some (.int .i64 e0) := hc' 0 (by decide)
      have y1 : wr.cell? ⟨g', o' + k * 3 + 1, none⟩ = some (.int .i64 e1) := hc' 1 (by decide)
      have y2 : wr.cell? ⟨g', o' + k * 3 + 2, none⟩ = some (.int .i64 e2) := hc' 2 (by decide)
      clear hc hc'
      have Hx := Lib.hid hx; clear hx
      go_wp2
      go_still_tail 9, (by kernel_rfl)
      go_wp2_with (go_at_call 49; refine (plainLine1_same _ _ _ _).mono ?_; rintro e w' ⟨rfl, hk2⟩; have Hk2 := Lib.hid hk2; clear hk2)
      go_roundw
      case rel => exact ⟨k + 1, by omega, by go_num, (Hkp.out.trans ((Keeps.drew _).trans (Hk2.out.mono (by simp))))⟩
      case measure => simp [intOf]; omega
    · go_wp2
      go_ret
      exact ⟨rfl, Hkp.out⟩
set_option maxRecDepth 100000 in
set_option maxHeartbeats 400000 in
theorem plainLine_same (L : List Ln) (v1 v2 : Value) (w : World) (h1 : Reads w 3 v1 L.length (L.flatMap Ln.cells)) (h2 : Reads w 3 v2 L.length (L.flatMap Ln.cells)) (hl : L.length ≤ 1000000000000) :
    Calls Tryd.prog 39 #[v1, v2] w fun e w' => e = .returned (.bool true) ∧ Keeps (fun _ => False) w w' := by
  have H1 := Lib.hid h1; clear h1; have H2 := Lib.hid h2; clear h2
  go_enter Tryd.func39, Tryd.ntmps39
  go_wp2_with (go_at_call 48; refine (sameLine_same L _ _ _ H1.out H2.out hl).mono ?_; rintro e w' ⟨rfl, hk2⟩; have Hk2 := Lib.hid hk2; clear hk2)
  go_ret
  exact ⟨rfl, Hk2.out⟩
set_option maxRecDepth 100000 in
set_option maxHeartbeats 1600000 in
theorem sameStm_any (s : Stm) (v1 v2 : Value) (w : World) (h1 : Reads w 3 v1 s.lines.length (s.lines.flatMap Ln.cells)) (h2 : Reads w 3 v2 s.lines.length (s.lines.flatMap Ln.cells)) (hl : s.lines.length ≤ 1000000000000) :
    Calls Tryd.prog 18 #[s.val v1, s.val v2] w fun e w' => e = .returned (.bool true) ∧ Keeps (fun _ => False) w w' := by
  obtain ⟨cy, fr, to, du, tot, cr, mi, gr, L⟩ := s
  simp only [Stm.val] at *
  have g1 := h1
  have g2 := h2
  obtain ⟨ad1, c1, rfl, _, _⟩ := g1
  obtain ⟨ad2, c2, rfl, _, _⟩ := g2
  have H1 := Lib.hid h1; clear h1; have H2 := Lib.hid h2; clear h2
  go_enter Tryd.func18, Tryd.ntmps18
  go_wp2_with (go_at_call 39; refine (plainLine_same L _ _ _ ((H1.out.alloc _).alloc _) ((H2.out.alloc _).alloc _) hl).mono ?_; rintro e w1 ⟨rfl, hk1⟩; have hb1 := box_old (box_alloc (heap_alloc_new w _) _) hk1 (by simp); have hb2 := box_new hk1 (by simp); simp only [World.size_alloc] at hb2; have xa := cell_of_cells hb1; have xb := cell_of_cells hb2; have xl1 := lt_of_block hb1; have xl2 := lt_of_block hb2; have Hk1 := Lib.hid hk1; clear hk1 hb1 hb2)
  go_ret
  exact ⟨rfl, ((Keeps.alloc _ _).trans (Keeps.alloc _ _)).trans (Hk1.out.mono (by simp))⟩
set_option maxRecDepth 100000 in
set_option maxHeartbeats 400000 in
theorem helpBytes_eq (L : List Int) (v1 v2 : Value) (w : World) (h1 : Reads w 1 v1 L.length (L.flatMap u8c)) (h2 : Reads w 1 v2 L.length (L.flatMap u8c)) :
    Calls Tryd.prog 17 #[v1, v2] w fun e w' => e = .returned (.bool true) ∧ w = w' := by
  have g1 := h1
  have g2 := h2
  obtain ⟨ad1, c1, rfl, _, _⟩ := g1
  obtain ⟨ad2, c2, rfl, _, _⟩ := g2
  have k1 := conv_bytes Tryd.underlying31 Tryd.underlying5 Tryd.underlying9 h1
  have k2 := conv_bytes Tryd.underlying31 Tryd.underlying5 Tryd.underlying9 h2
  have H1 := Lib.hid h1; clear h1; have H2 := Lib.hid h2; clear h2
  go_enter Tryd.func17, Tryd.ntmps17
  go_wp2
  go_ret
  exact ⟨by simp, rfl⟩
def oneS : Stm := ⟨1, 10957, 10987, 11000, 5, 0, 5, true, [⟨5, 1, 7⟩]⟩
theorem oneS_right : oneS.rightB = true := by decide
theorem oneS_pack : (packN oneS.nums).length = 96 := by decide
theorem pack_one {w : World} {ad : Option Addr} {cap : Nat} (hr : Reads w 3 (.slice ad 1 cap) 1 [.int .i64 5, .int .i64 1, .int .i64 7]) : Calls Tryd.prog 7 #[.agg #[.int .i64 1, .int .i64 10957, .int .i64 10987, .int .i64 11000, .slice ad 1 cap, .int .i64 5, .int .i64 0, .int .i64 5, .bool true]] w fun e w' => ∃ ad' cap', e = .returned (.tuple #[.slice ad' 96 cap', .int .i64 0]) ∧ Keeps (fun _ => False) w w' := by
  refine (pagePack_any oneS ad cap w hr (by decide)).mono ?_
  rintro e w' ⟨v, rfl, hf⟩
  have he : packErr oneS = 0 := by decide
  have hl : (packB oneS).length = 96 := by decide
  obtain ⟨ad', cap', rfl, _, _⟩ := ownsRow_shape hf.row
  exact ⟨ad', cap', by rw [he, hl], hf.kp⟩
theorem right_one {w : World} {ad : Option Addr} {cap : Nat} (hr : Reads w 3 (.slice ad 1 cap) 1 [.int .i64 5, .int .i64 1, .int .i64 7]) : Calls Tryd.prog 9 #[.agg #[.int .i64 1, .int .i64 10957, .int .i64 10987, .int .i64 11000, .slice ad 1 cap, .int .i64 5, .int .i64 0, .int .i64 5, .bool true]] w fun e w' => e = .returned (.bool true) ∧ Keeps (fun _ => False) w w' := by
  have := pageRight_any oneS ad cap w hr (by decide)
  rw [oneS_right] at this; exact this
theorem right_none (w : World) : Calls Tryd.prog 9 #[.agg #[.int .i64 0, .int .i64 0, .int .i64 0, .int .i64 0, .slice none 0 0, .int .i64 0, .int .i64 0, .int .i64 0, .bool false]] w fun e w' => e = .returned (.bool false) ∧ Keeps (fun _ => False) w w' := by
  have := pageRight_any stm0P none 0 w (Reads.nil _ _) (by decide)
  rw [show stm0P.rightB = false by decide] at this; exact this
set_option maxRecDepth 100000 in
set_option maxHeartbeats 400000 in
theorem one20_any (w : World) : Calls Tryd.prog 6 #[] w fun e w' => ∃ ad cap, e = .returned (.agg #[.int .i64 1, .int .i64 10957, .int .i64 10987, .int .i64 11000, .slice ad 1 cap, .int .i64 5, .int .i64 0, .int .i64 5, .bool true]) ∧ Reads w' 3 (.slice ad 1 cap) 1 [.int .i64 5, .int .i64 1, .int .i64 7] ∧ Keeps (fun _ => False) w w' := by
  go_enter Tryd.func6, Tryd.ntmps6
  go_wp2
  have hb := box_alloc (heap_alloc_new w (.cells #[.int .i64 1, .int .i64 10957, .int .i64 10987, .int .i64 11000, .slice (some ⟨w.heap.size + 1, 0, none⟩) 1 1, .int .i64 5, .int .i64 0, .int .i64 5, .bool true] 26)) (.cells #[.int .i64 5, .int .i64 1, .int .i64 7] 30)
  have hr := Reads.litAt (w.alloc (.cells #[.int .i64 1, .int .i64 10957, .int .i64 10987, .int .i64 11000, .slice (some ⟨w.heap.size + 1, 0, none⟩) 1 1, .int .i64 5, .int .i64 0, .int .i64 5, .bool true] 26)) #[.int .i64 5, .int .i64 1, .int .i64 7] 30 3 1 (w.heap.size + 1) (by simp) rfl
  have xl := lt_of_block hb
  exact bodyPost_ret (v := .agg #[.int .i64 1, .int .i64 10957, .int .i64 10987, .int .i64 11000, .slice (some ⟨w.heap.size + 1, 0, none⟩) 1 1, .int .i64 5, .int .i64 0, .int .i64 5, .bool true]) (by simp [results, Tryd.results6, go_sem, cell_of_cells hb]) rfl ⟨_, _, rfl, hr, (Keeps.alloc _ _).trans (Keeps.alloc _ _)⟩
set_option maxRecDepth 100000 in
set_option maxHeartbeats 1600000 in
theorem awake20_any (w : World) : Calls Tryd.prog 8 #[] w fun e w' => e = .returned (.bool true) ∧ Keeps (fun _ => False) w w' := by
  go_enter Tryd.func8, Tryd.ntmps8
  go_wp2_with fail
  refine (one20_any _).mono ?_
  rintro e w1 ⟨ad1, cap1, rfl, hr1, hk1⟩
  have Hr1 := Lib.hid hr1; clear hr1; have Hk1 := Lib.hid hk1; clear hk1
  go_wp2_with fail
  refine (pack_one Hr1.out).mono ?_
  rintro e w2 ⟨ad2, cap2, rfl, hk2⟩
  have Hk2 := Lib.hid hk2; clear hk2
  go_wp2_with fail
  refine (one20_any _).mono ?_
  rintro e w3 ⟨ad3, cap3, rfl, hr3, hk3⟩
  have Hr3 := Lib.hid hr3; clear hr3; have Hk3 := Lib.hid hk3; clear hk3
  go_wp2_with fail
  refine (right_one Hr3.out).mono ?_
  rintro e w4 ⟨rfl, hk4⟩
  have Hk4 := Lib.hid hk4; clear hk4
  go_wp2_with fail
  refine (right_none _).mono ?_
  rintro e w5 ⟨rfl, hk5⟩
  have Hk5 := Lib.hid hk5; clear hk5
  go_wp2
  go_ret
  exact ⟨rfl, (((Hk1.out.none_trans Hk2.out).none_trans Hk3.out).none_trans Hk4.out).none_trans Hk5.out⟩
end Go.Proofs.YthokcmbgamanbaaDoor
