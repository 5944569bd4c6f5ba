/- The helper Kept at events. -/
import Derived.Test.YtelhlbplbkglkaaOwnEv
namespace Go.Proofs.Ytelhlbplbkglkaa
open Go.RowKit
def tenS (g o E : Nat) (ki da tr am re : Int) (w : World) : Prop :=
  w.cell? ⟨g, o, none⟩ = some (.int .i64 ki) ∧ w.cell? ⟨g, o + 1, none⟩ = some (.int .i64 da) ∧ w.cell? ⟨g, o + 2, none⟩ = some (.int .i64 tr) ∧ w.cell? ⟨g, o + 3, none⟩ = some (.int .i64 am) ∧ w.cell? ⟨g, o + 4, none⟩ = some (.int .i64 re) ∧
  w.cell? ⟨E, 0, none⟩ = some (.int .i64 ki) ∧ w.cell? ⟨E, 1, none⟩ = some (.int .i64 da) ∧ w.cell? ⟨E, 2, none⟩ = some (.int .i64 tr) ∧ w.cell? ⟨E, 3, none⟩ = some (.int .i64 am) ∧ w.cell? ⟨E, 4, none⟩ = some (.int .i64 re)
set_option maxRecDepth 100000 in
set_option maxHeartbeats 1600000 in
theorem keptEv_any (g : Nat) (ad : Option Addr) (cap : Nat) (L : List Ev) (x : Ev) (w : World) (h : OwnE w g L x) (hr : Reads w 5 (.slice ad L.length cap) L.length (L.flatMap Ev.cells)) (hl : L.length ≤ 1000000) :
    Calls Try.prog 27 #[.slice (some ⟨g, 0, none⟩) L.length (L.length + 3), .slice ad L.length cap, x.agg] w fun e w' => e = .returned (.bool true) ∧ Keeps (fun _ => False) w w' := by
  have hpl := fun W (hW : Keeps (fun _ => False) w W) => plainEv_same L _ _ W (h.reads.keeps hW (by simp)) (hr.keeps hW (by simp)) (by omega)
  have hful := h.full
  have hlast : ∀ j, j < 3 → (L ++ List.replicate 3 x)[L.length + j]? = some x := fun j hj => by rw [List.getElem?_append_right (by omega), List.getElem?_replicate, if_pos (by omega)]
  obtain ⟨n, hn⟩ : ∃ n, L.length = n := ⟨_, rfl⟩
  rw [hn] at hpl hr hl hlast hful ⊢
  obtain ⟨ki, da, tr, am, re⟩ := x
  simp only [Ev.agg]
  have hbS : ∀ W, Keeps (fun _ => False) (w.alloc (.cells #[.int .i64 ki, .int .i64 da, .int .i64 tr, .int .i64 am, .int .i64 re] 34)) W → bxS w.heap.size ki da tr am re W := fun W hW => bxS.of (box_old (heap_alloc_new w _) hW (by simp))
  have Hr := Lib.hid hr; clear hr; have Hn := Lib.hid hn; clear hn; have HbS := Lib.hid hbS; clear hbS; have H := Lib.hid h; clear h; have Hpl := Lib.hid hpl; clear hpl; have Hlast := Lib.hid hlast; clear hlast; have Hful := Lib.hid hful; clear hful
  go_enter Try.func27, Try.ntmps27
  go_wp2_with (go_at_call 20; refine (Hpl.out _ (Keeps.alloc _ _)).mono ?_; rintro e w1 ⟨rfl, hk1⟩; have Hk1 := Lib.hid hk1; clear hk1)
  go_loopw [8] (fun c wr => ∃ (j : Nat), j ≤ 3 ∧ c = .int .i64 ((n + j : Nat) : Int) ∧ Keeps (fun _ => False) (w.alloc (.cells #[.int .i64 ki, .int .i64 da, .int .i64 tr, .int .i64 am, .int .i64 re] 34)) wr) (fun c _ => n + 3 - (intOf c).toNat)
  case atStart => exact ⟨0, by omega, by simp, Hk1.out⟩
  case round =>
    obtain ⟨j, hj, rfl, hk⟩ := hrel
    by_cases hj3 : j < 3
    · have hjl : ((n + j : Nat) : Int) < (n : Int) + 3 := by omega
      have p0 : (0 : Int) ≤ (n : Int) + (j : Int) := by omega
      have p1 : (n : Int) + (j : Int) < (n : Int) + 3 := by omega
      have p2 : ((n : Int) + (j : Int)).toNat = n + j := by omega
      have hjI : ((n + j : Nat) : Int) < ((n + 3 : Nat) : Int) := by omega
      obtain ⟨g', o', c', he, hc⟩ := (Hful.out.keeps ((Keeps.alloc w _).nt (hk.nt (Keeps.drew wr))) (by simp)).elem Ev.cells_length (Hlast.out j hj3) (by decide)
      simp only [Value.slice.injEq, true_and, Option.some.injEq, Addr.mk.injEq, and_true] at he
      obtain ⟨⟨rfl, rfl⟩, rfl⟩ := he
      have hS : tenS g ((n + j) * 5) w.heap.size ki da tr am re wr.drew := by
        obtain ⟨b0, b1, b2, b3, b4⟩ := HbS.out _ (hk.nt (Keeps.drew wr))
        have d0 := hc 0 (by decide)
        have d1 := hc 1 (by decide)
        have d2 := hc 2 (by decide)
        have d3 := hc 3 (by decide)
        have d4 := hc 4 (by decide)
        simp only [Nat.zero_add, Nat.add_zero] at d0 d1 d2 d3 d4
        exact ⟨d0, d1, d2, d3, d4, b0, b1, b2, b3, b4⟩
      clear hc
      have Hk := Lib.hid hk; clear hk; have HS := Lib.hid hS; clear hS
      go_wp2_with fail
      refine wp_region_mixw (tenS g ((n + j) * 5) w.heap.size ki da tr am re) (.take 0 (.take 1 (.take 2 (.take 3 (.take 4 (.take 5 .done)))))) (by kernel_rfl) (by kernel_rfl) ?_ ?_
      · exact HS.out
      intro w2 hs2 hk2
      repeat (first
        | (refine mix_skip rfl (by rfl) ?_; try simp only [Act.put, List.setIfInBounds_toArray, List.set_cons_zero, List.set_cons_succ])
        | (refine mix_skipm rfl (by rfl) ?_; try simp only [Act.put, List.setIfInBounds_toArray, List.set_cons_zero, List.set_cons_succ])
        | (refine mix_take (v := ?_) rfl (by rfl) ?_ ?_; rotate_left; (· intro w' hSw; unfold tenS at hSw; go_simp; (try with_reducible rfl)); rotate_right; try simp only [Act.put, List.setIfInBounds_toArray, List.set_cons_zero, List.set_cons_succ]))
      refine mix_done ?_
      have Hk2 := Lib.hid (Hk.out.nt hk2)
      clear hs2 hk2
      go_wp2_with fail
      go_roundw
      case rel => exact ⟨j + 1, by omega, by go_num, Hk2.out⟩
      case measure => simp [intOf]; omega
    · obtain rfl : j = 3 := by omega
      have hkw := (Keeps.alloc w _).nt hk
      have Hk := Lib.hid hk; clear hk; have Hkw := Lib.hid hkw; clear hkw
      go_wp2
      go_ret
      exact ⟨rfl, Hkw.out⟩
end Go.Proofs.Ytelhlbplbkglkaa
