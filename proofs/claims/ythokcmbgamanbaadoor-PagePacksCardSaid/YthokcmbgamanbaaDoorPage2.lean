/- The walks of the page layer: is it right. -/
import Derived.Test.YthokcmbgamanbaaDoorPage
namespace Go.Proofs.YthokcmbgamanbaaDoor
open Go.RowKit
set_option maxRecDepth 100000 in
set_option maxHeartbeats 3200000 in
theorem pageRight_loop (s : Stm) (ad : Option Addr) (cap : Nat) (w : World) (h1 : 1 ≤ s.cycle) (h2 : s.cycle ≤ 300) (h3 : thereB [s.fr, s.te, s.due] = true) (h4 : s.fr ≤ s.te) (h5 : s.te ≤ s.due)
    (h6 : 1 ≤ s.lines.length) (h7 : s.lines.length ≤ 8) (h8 : mayB 1000000000000000 [s.total, s.credit, s.min] = true) (h9 : s.min ≤ s.total) (hr : Reads w 3 (.slice ad s.lines.length cap) s.lines.length (s.lines.flatMap Ln.cells)) :
    Calls Tryd.prog 9 #[s.val (.slice ad s.lines.length cap)] w fun e w' => e = .returned (.bool s.rightB) ∧ Keeps (fun _ => False) w w' := by
  have hf : s.rightB = (s.lines.all Ln.okB && decide (sumLn s.lines = s.total)) := by
    rw [Stm.rightB_split]
    simp [h1, h2, h3, h4, h5, h6, h7, h8, h9]
  obtain ⟨cy, fr, to, du, tot, cr, mi, gr, L⟩ := s
  simp only at h1 h2 h3 h4 h5 h6 h7 h8 h9 hf hr ⊢
  simp only [Stm.val]
  rw [hf]
  clear hf
  have Hr := Lib.hid hr; clear hr
  go_enter Tryd.func9, Tryd.ntmps9
  go_wp2
  refine wp_scope_ahead 0 rfl ?_
  go_wp2_with (first
    | (go_at_call 23; ((with_reducible refine (pageThere3 (by simp) _ fr to du).mono ?_); rintro e w1 ⟨rfl, rfl⟩))
    | (go_at_call 24; ((with_reducible refine (pageMay3 (by simp) _ _ tot cr mi).mono ?_); rintro e w1 ⟨rfl, rfl⟩)))
  have hbox : (((w.alloc (.cells #[.int .i64 cy, .int .i64 fr, .int .i64 to, .int .i64 du, .slice ad L.length cap, .int .i64 tot, .int .i64 cr, .int .i64 mi, .bool gr] 26)).alloc (.cells #[.int .i64 fr, .int .i64 to, .int .i64 du] 3)).alloc (.cells #[.int .i64 tot, .int .i64 cr, .int .i64 mi] 2)).heap[w.heap.size]? = some (.cells #[.int .i64 cy, .int .i64 fr, .int .i64 to, .int .i64 du, .slice ad L.length cap, .int .i64 tot, .int .i64 cr, .int .i64 mi, .bool gr] 26 (0, 0)) := box_alloc (box_alloc (heap_alloc_new _ _) _) _
  go_loopw [3, 75] (fun a c wr => ∃ j : Nat, j ≤ L.length ∧ c = .int .i64 (j : Nat) ∧ a = .int .i64 (sumLn (L.take j)) ∧ (L.take j).all Ln.okB = true ∧ Keeps (fun _ => False) w wr ∧ wr.heap[w.heap.size]? = some (.cells #[.int .i64 cy, .int .i64 fr, .int .i64 to, .int .i64 du, .slice ad L.length cap, .int .i64 tot, .int .i64 cr, .int .i64 mi, .bool gr] 26 (0, 0))) (fun _ c _ => L.length - (intOf c).toNat)
  case atStart => exact ⟨0, Nat.zero_le _, rfl, rfl, rfl, ((Keeps.alloc _ _).trans (Keeps.alloc _ _)).trans (Keeps.alloc _ _), hbox⟩
  case round =>
    obtain ⟨j, hj, rfl, rfl, hok, hk, hb⟩ := hrel
    have hbd := sumLn_bd hok
    obtain ⟨S, hS⟩ : ∃ S, sumLn (L.take j) = S := ⟨_, rfl⟩
    rw [hS] at hbd ⊢
    have hbd2 : S ≤ 8000000000000000 := by have := hbd.2; rw [List.length_take] at this; omega
    have hbd1 := hbd.1
    clear hbd
    have b5 := cell_of_cells hb 5
    have hbl := lt_of_block hb
    by_cases hjl : j < L.length
    · obtain ⟨⟨xb, xi, xr⟩, hx⟩ := get_some hjl
      obtain ⟨g, o, c, he, hc⟩ := (Hr.out.keeps hk (by simp)).elem Ln.cells_length hx (by decide)
      simp only [Value.slice.injEq, true_and] at he
      obtain ⟨rfl, rfl⟩ := he
      have x0 : wr.cell? ⟨g, o + j * 3, none⟩ = some (.int .i64 xb) := hc 0 (by decide)
      have x1 : wr.cell? ⟨g, o + j * 3 + 1, none⟩ = some (.int .i64 xi) := hc 1 (by decide)
      have x2 : wr.cell? ⟨g, o + j * 3 + 2, none⟩ = some (.int .i64 xr) := hc 2 (by decide)
      have hsn : sumLn (L.take (j + 1)) = S + xb := by rw [take_snoc' hx, sumLn_snoc, hS]
      have han : (L.take (j + 1)).all Ln.okB = (mayB 1000000000000000 [xb, xi] && mayB 10000000 [xr]) := by rw [take_snoc' hx, List.all_append, hok]; simp [Ln.okB]
      have hno : (mayB 1000000000000000 [xb, xi] && mayB 10000000 [xr]) = false → (L.all Ln.okB && decide (sumLn L = tot)) = false := fun h => by rw [okB_false hx (by simpa [Ln.okB] using h)]; rfl
      clear hc
      rcases m1 : mayB 1000000000000000 [xb, xi] with _ | _
      · have hf := hno (by rw [m1]; rfl)
        clear hbd1 hbd2 h9
        have Hx := Lib.hid hx; clear hx; have Hsn := Lib.hid hsn; clear hsn; have Han := Lib.hid han; clear han; have Hno := Lib.hid hno; clear hno; have Hk := Lib.hid hk; clear hk; have Hb := Lib.hid hb; clear hb; have HS := Lib.hid hS; clear hS; have Hok := Lib.hid hok; clear hok; have Hf := Lib.hid hf; clear hf
        go_wp2_with (first
          | (go_at_call 24; ((with_reducible refine (pageMay2 (by simp) _ _ xb xi).mono ?_); rintro e w1 ⟨rfl, rfl⟩))
          | (go_at_call 24; ((with_reducible refine (pageMay1 (by simp) _ _ xr).mono ?_); rintro e w1 ⟨rfl, rfl⟩)))
        go_step3
        go_wp2
        refine jump_goto ?_
        go_wp2
        rw [Exit.noGoto_ret]
        go_ret
        exact ⟨by rw [Hf.out]; rfl, by first | exact Hk.out.trans ((Keeps.alloc _ _).trans (Keeps.alloc _ _)) | exact Hk.out.trans (((Keeps.alloc _ _).trans (Keeps.alloc _ _)).trans (Keeps.alloc _ _))⟩
      · rcases m2 : mayB 10000000 [xr] with _ | _
        · have hf := hno (by rw [m1, m2]; rfl)
          clear hbd1 hbd2 h9
          have Hx := Lib.hid hx; clear hx; have Hsn := Lib.hid hsn; clear hsn; have Han := Lib.hid han; clear han; have Hno := Lib.hid hno; clear hno; have Hk := Lib.hid hk; clear hk; have Hb := Lib.hid hb; clear hb; have HS := Lib.hid hS; clear hS; have Hok := Lib.hid hok; clear hok; have Hf := Lib.hid hf; clear hf
          go_wp2_with (first
            | (go_at_call 24; ((with_reducible refine (pageMay2 (by simp) _ _ xb xi).mono ?_); rintro e w1 ⟨rfl, rfl⟩))
            | (go_at_call 24; ((with_reducible refine (pageMay1 (by simp) _ _ xr).mono ?_); rintro e w1 ⟨rfl, rfl⟩)))
          go_step3
          go_wp2
          refine jump_goto ?_
          go_wp2
          rw [Exit.noGoto_ret]
          go_ret
          exact ⟨by rw [Hf.out]; rfl, by first | exact Hk.out.trans ((Keeps.alloc _ _).trans (Keeps.alloc _ _)) | exact Hk.out.trans (((Keeps.alloc _ _).trans (Keeps.alloc _ _)).trans (Keeps.alloc _ _))⟩
        · have hok' : (L.take (j + 1)).all Ln.okB = true := by rw [han, m1, m2]; rfl
          have hxb := (mayB_iff.1 m1) xb (by simp)
          have hw1 : IntKind.i64.wrap (S + xb) = S + xb := IntWalk.i64_in _ (by omega)
          clear hxb hbd1 hbd2 h9
          have Hx := Lib.hid hx; clear hx; have Hsn := Lib.hid hsn; clear hsn; have Han := Lib.hid han; clear han; have Hno := Lib.hid hno; clear hno; have Hk := Lib.hid hk; clear hk; have Hb := Lib.hid hb; clear hb; have HS := Lib.hid hS; clear hS; have Hok := Lib.hid hok; clear hok; have Hok' := Lib.hid hok'; clear hok'
          go_wp2_with (first
            | (go_at_call 24; ((with_reducible refine (pageMay2 (by simp) _ _ xb xi).mono ?_); rintro e w1 ⟨rfl, rfl⟩))
            | (go_at_call 24; ((with_reducible refine (pageMay1 (by simp) _ _ xr).mono ?_); rintro e w1 ⟨rfl, rfl⟩)))
          go_roundw
          case rel => exact ⟨j + 1, by omega, by go_num, by rw [Hsn.out], Hok'.out, Hk.out.trans (((Keeps.alloc _ _).trans (Keeps.alloc _ _)).trans (Keeps.alloc _ _)), box_alloc (box_alloc (box_alloc Hb.out _) _) _⟩
          case measure => simp [intOf]; omega
    · obtain rfl : j = L.length := by omega
      rw [List.take_length] at hok hS
      have hfin : (L.all Ln.okB && decide (sumLn L = tot)) = decide (S = tot) := by rw [hok, hS]; rfl
      clear hbd1 hbd2
      have Hk := Lib.hid hk; clear hk; have Hb := Lib.hid hb; clear hb; have Hok := Lib.hid hok; clear hok; have HS := Lib.hid hS; clear hS; have Hfin := Lib.hid hfin; clear hfin
      go_wp2
      refine jump_ret ?_
      go_ret
      exact ⟨by rw [Hfin.out]; rfl, Hk.out⟩
theorem pageRight_any (s : Stm) (ad : Option Addr) (cap : Nat) (w : World) (hr : Reads w 3 (.slice ad s.lines.length cap) s.lines.length (s.lines.flatMap Ln.cells)) (hl : s.lines.length ≤ 1000000) :
    Calls Tryd.prog 9 #[s.val (.slice ad s.lines.length cap)] w fun e w' => e = .returned (.bool s.rightB) ∧ Keeps (fun _ => False) w w' := by
  by_cases h1 : 1 ≤ s.cycle
  · by_cases h2 : s.cycle ≤ 300
    · rcases h3 : thereB [s.fr, s.te, s.due] with _ | _
      · exact pageRight_wrong1 s ad cap w (.inr (.inr (.inl h3))) hl
      · by_cases h4 : s.fr ≤ s.te
        · by_cases h5 : s.te ≤ s.due
          · by_cases h6 : 1 ≤ s.lines.length
            · by_cases h7 : s.lines.length ≤ 8
              · rcases h8 : mayB 1000000000000000 [s.total, s.credit, s.min] with _ | _
                · exact pageRight_wrong2 s ad cap w h1 h2 h3 h4 h5 (.inr (.inr (.inl h8))) hl
                · by_cases h9 : s.min ≤ s.total
                  · exact pageRight_loop s ad cap w h1 h2 h3 h4 h5 h6 h7 h8 h9 hr
                  · exact pageRight_wrong2 s ad cap w h1 h2 h3 h4 h5 (.inr (.inr (.inr h9))) hl
              · exact pageRight_wrong2 s ad cap w h1 h2 h3 h4 h5 (.inr (.inl h7)) hl
            · exact pageRight_wrong2 s ad cap w h1 h2 h3 h4 h5 (.inl h6) hl
          · exact pageRight_wrong1 s ad cap w (.inr (.inr (.inr (.inr h5)))) hl
        · exact pageRight_wrong1 s ad cap w (.inr (.inr (.inr (.inl h4)))) hl
    · exact pageRight_wrong1 s ad cap w (.inr (.inl h2)) hl
  · exact pageRight_wrong1 s ad cap w (.inl h1) hl
end Go.Proofs.YthokcmbgamanbaaDoor
