/- The walks of the page layer: is it right, as the document says. -/
import Derived.Test.YthokcmbgamanbaaDoorPage2
namespace Go.Proofs.YthokcmbgamanbaaDoor
open Go.RowKit
def moneyB (v : Int) : Bool := decide (0 ≤ v ∧ v ≤ 1000000000000000)
set_option maxRecDepth 100000 in
set_option maxHeartbeats 400000 in
theorem rDay20_any (n : Int) (w : World) : Calls Tryd.prog 37 #[.int .i64 n] w fun e w' => e = .returned (.bool (dayB n)) ∧ w = w' := by
  have hd : dayB n = decide (-135140 ≤ n ∧ n ≤ 2932896) := rfl
  by_cases h1 : -135140 ≤ n
  · by_cases h2 : n ≤ 2932896
    · have : dayB n = true := by rw [hd]; simp; omega
      have Hd := Lib.hid hd; clear hd; have This := Lib.hid this; clear this
      go_enter Tryd.func37, Tryd.ntmps37
      go_wp2
      go_ret
      exact ⟨by rw [This.out]; rfl, rfl⟩
    · have : dayB n = false := by rw [hd]; simp; omega
      have Hd := Lib.hid hd; clear hd; have This := Lib.hid this; clear this
      go_enter Tryd.func37, Tryd.ntmps37
      go_wp2
      go_ret
      exact ⟨by rw [This.out]; rfl, rfl⟩
  · have : dayB n = false := by rw [hd]; simp; omega
    have Hd := Lib.hid hd; clear hd; have This := Lib.hid this; clear this
    go_enter Tryd.func37, Tryd.ntmps37
    go_wp2
    go_ret
    exact ⟨by rw [This.out]; rfl, rfl⟩
set_option maxRecDepth 100000 in
set_option maxHeartbeats 400000 in
theorem rMoney20_any (n : Int) (w : World) : Calls Tryd.prog 38 #[.int .i64 n] w fun e w' => e = .returned (.bool (moneyB n)) ∧ w = w' := by
  have hd : moneyB n = decide (0 ≤ n ∧ n ≤ 1000000000000000) := rfl
  by_cases h1 : 0 ≤ n
  · by_cases h2 : n ≤ 1000000000000000
    · have : moneyB n = true := by rw [hd]; simp; omega
      have Hd := Lib.hid hd; clear hd; have This := Lib.hid this; clear this
      go_enter Tryd.func38, Tryd.ntmps38
      go_wp2
      go_ret
      exact ⟨by rw [This.out]; rfl, rfl⟩
    · have : moneyB n = false := by rw [hd]; simp; omega
      have Hd := Lib.hid hd; clear hd; have This := Lib.hid this; clear this
      go_enter Tryd.func38, Tryd.ntmps38
      go_wp2
      go_ret
      exact ⟨by rw [This.out]; rfl, rfl⟩
  · have : moneyB n = false := by rw [hd]; simp; omega
    have Hd := Lib.hid hd; clear hd; have This := Lib.hid this; clear this
    go_enter Tryd.func38, Tryd.ntmps38
    go_wp2
    go_ret
    exact ⟨by rw [This.out]; rfl, rfl⟩
theorem mayB3 (a b c : Int) : mayB 1000000000000000 [a, b, c] = (moneyB a && moneyB b && moneyB c) := by simp [mayB, moneyB, Bool.and_assoc]
theorem mayB2 (a b : Int) : mayB 1000000000000000 [a, b] = (moneyB a && moneyB b) := by simp [mayB, moneyB]
theorem thereB3 (a b c : Int) : thereB [a, b, c] = (dayB a && dayB b && dayB c) := by simp [thereB, Bool.and_assoc]
set_option maxRecDepth 100000 in
set_option maxHeartbeats 3200000 in
theorem rpageRight_wrong1 (s : Stm) (ad : Option Addr) (cap : Nat) (w : World) (h : ¬ (1 ≤ s.cycle) ∨ ¬ (s.cycle ≤ 300) ∨ thereB [s.fr, s.te, s.due] = false ∨ ¬ s.fr ≤ s.te ∨ ¬ s.te ≤ s.due) (hl : s.lines.length ≤ 1000000) :
    Calls Tryd.prog 16 #[s.val (.slice ad s.lines.length cap)] w fun e w' => e = .returned (.bool s.rightB) ∧ Keeps (fun _ => False) w w' := by
  have hf : s.rightB = false := by
    rw [Stm.rightB_split]
    rcases h with h | h | h | h | h <;> simp [h]
  obtain ⟨cy, fr, to, du, tot, cr, mi, gr, L⟩ := s
  simp only at h hl ⊢
  simp only [Stm.val]
  rw [thereB3] at h
  have Hf := Lib.hid hf; clear hf
  by_cases h1 : cy < 1
  · clear h
    go_enter Tryd.func16, Tryd.ntmps16
    go_wp2_with (first
      | (go_at_call 37; ((with_reducible refine (rDay20_any _ _).mono ?_); rintro e w1 ⟨rfl, rfl⟩))
      | (go_at_call 38; ((with_reducible refine (rMoney20_any _ _).mono ?_); rintro e w1 ⟨rfl, rfl⟩)))
    go_ret
    exact ⟨by rw [Hf.out]; rfl, Keeps.alloc _ _⟩
  · by_cases h2 : 300 < cy
    · clear h
      go_enter Tryd.func16, Tryd.ntmps16
      go_wp2_with (first
        | (go_at_call 37; ((with_reducible refine (rDay20_any _ _).mono ?_); rintro e w1 ⟨rfl, rfl⟩))
        | (go_at_call 38; ((with_reducible refine (rMoney20_any _ _).mono ?_); rintro e w1 ⟨rfl, rfl⟩)))
      go_ret
      exact ⟨by rw [Hf.out]; rfl, Keeps.alloc _ _⟩
    · rcases d1 : dayB fr with _ | _
      · clear h
        go_enter Tryd.func16, Tryd.ntmps16
        go_wp2_with (first
          | (go_at_call 37; ((with_reducible refine (rDay20_any _ _).mono ?_); rintro e w1 ⟨rfl, rfl⟩))
          | (go_at_call 38; ((with_reducible refine (rMoney20_any _ _).mono ?_); rintro e w1 ⟨rfl, rfl⟩)))
        go_ret
        exact ⟨by rw [Hf.out]; rfl, Keeps.alloc _ _⟩
      · rcases d2 : dayB to with _ | _
        · clear h
          go_enter Tryd.func16, Tryd.ntmps16
          go_wp2_with (first
            | (go_at_call 37; ((with_reducible refine (rDay20_any _ _).mono ?_); rintro e w1 ⟨rfl, rfl⟩))
            | (go_at_call 38; ((with_reducible refine (rMoney20_any _ _).mono ?_); rintro e w1 ⟨rfl, rfl⟩)))
          go_ret
          exact ⟨by rw [Hf.out]; rfl, Keeps.alloc _ _⟩
        · rcases d3 : dayB du with _ | _
          · clear h
            go_enter Tryd.func16, Tryd.ntmps16
            go_wp2_with (first
              | (go_at_call 37; ((with_reducible refine (rDay20_any _ _).mono ?_); rintro e w1 ⟨rfl, rfl⟩))
              | (go_at_call 38; ((with_reducible refine (rMoney20_any _ _).mono ?_); rintro e w1 ⟨rfl, rfl⟩)))
            go_ret
            exact ⟨by rw [Hf.out]; rfl, Keeps.alloc _ _⟩
          · by_cases h4 : to < fr
            · clear h
              go_enter Tryd.func16, Tryd.ntmps16
              go_wp2_with (first
                | (go_at_call 37; ((with_reducible refine (rDay20_any _ _).mono ?_); rintro e w1 ⟨rfl, rfl⟩))
                | (go_at_call 38; ((with_reducible refine (rMoney20_any _ _).mono ?_); rintro e w1 ⟨rfl, rfl⟩)))
              go_ret
              exact ⟨by rw [Hf.out]; rfl, Keeps.alloc _ _⟩
            · by_cases h5 : du < to
              · clear h
                go_enter Tryd.func16, Tryd.ntmps16
                go_wp2_with (first
                  | (go_at_call 37; ((with_reducible refine (rDay20_any _ _).mono ?_); rintro e w1 ⟨rfl, rfl⟩))
                  | (go_at_call 38; ((with_reducible refine (rMoney20_any _ _).mono ?_); rintro e w1 ⟨rfl, rfl⟩)))
                go_ret
                exact ⟨by rw [Hf.out]; rfl, Keeps.alloc _ _⟩
              · exfalso; rcases h with h | h | h | h | h <;> first | omega | (rw [d1, d2, d3] at h; simp at h)
set_option maxRecDepth 100000 in
set_option maxHeartbeats 3200000 in
theorem rpageRight_wrong2 (s : Stm) (ad : Option Addr) (cap : Nat) (w : World) (h1 : 1 ≤ s.cycle) (h2 : s.cycle ≤ 300) (h3 : thereB [s.fr, s.te, s.due] = true) (h4 : s.fr ≤ s.te) (h5 : s.te ≤ s.due)
    (h : ¬ (1 ≤ s.lines.length) ∨ ¬ (s.lines.length ≤ 8) ∨ mayB 1000000000000000 [s.total, s.credit, s.min] = false ∨ ¬ s.min ≤ s.total) (hl : s.lines.length ≤ 1000000) :
    Calls Tryd.prog 16 #[s.val (.slice ad s.lines.length cap)] w fun e w' => e = .returned (.bool s.rightB) ∧ Keeps (fun _ => False) w w' := by
  have hf : s.rightB = false := by
    rw [Stm.rightB_split]
    rcases h with h | h | h | h <;> simp [h]
  obtain ⟨cy, fr, to, du, tot, cr, mi, gr, L⟩ := s
  simp only at h1 h2 h3 h4 h5 h hl ⊢
  simp only [Stm.val]
  rw [mayB3] at h
  rw [thereB3, Bool.and_eq_true, Bool.and_eq_true] at h3
  obtain ⟨⟨d1, d2⟩, d3⟩ := h3
  obtain ⟨n, hn⟩ : ∃ n, L.length = n := ⟨_, rfl⟩
  rw [hn] at h hl ⊢
  have Hf := Lib.hid hf; clear hf; have Hn := Lib.hid hn; clear hn
  by_cases h6 : n < 1
  · clear h
    go_enter Tryd.func16, Tryd.ntmps16
    go_wp2_with (first
      | (go_at_call 37; ((with_reducible refine (rDay20_any _ _).mono ?_); rintro e w1 ⟨rfl, rfl⟩))
      | (go_at_call 38; ((with_reducible refine (rMoney20_any _ _).mono ?_); rintro e w1 ⟨rfl, rfl⟩)))
    go_ret
    exact ⟨by rw [Hf.out]; rfl, Keeps.alloc _ _⟩
  · by_cases h7 : 8 < n
    · clear h
      go_enter Tryd.func16, Tryd.ntmps16
      go_wp2_with (first
        | (go_at_call 37; ((with_reducible refine (rDay20_any _ _).mono ?_); rintro e w1 ⟨rfl, rfl⟩))
        | (go_at_call 38; ((with_reducible refine (rMoney20_any _ _).mono ?_); rintro e w1 ⟨rfl, rfl⟩)))
      go_ret
      exact ⟨by rw [Hf.out]; rfl, Keeps.alloc _ _⟩
    · rcases m1 : moneyB tot with _ | _
      · clear h
        go_enter Tryd.func16, Tryd.ntmps16
        go_wp2_with (first
          | (go_at_call 37; ((with_reducible refine (rDay20_any _ _).mono ?_); rintro e w1 ⟨rfl, rfl⟩))
          | (go_at_call 38; ((with_reducible refine (rMoney20_any _ _).mono ?_); rintro e w1 ⟨rfl, rfl⟩)))
        go_ret
        exact ⟨by rw [Hf.out]; rfl, Keeps.alloc _ _⟩
      · rcases m2 : moneyB cr with _ | _
        · clear h
          go_enter Tryd.func16, Tryd.ntmps16
          go_wp2_with (first
            | (go_at_call 37; ((with_reducible refine (rDay20_any _ _).mono ?_); rintro e w1 ⟨rfl, rfl⟩))
            | (go_at_call 38; ((with_reducible refine (rMoney20_any _ _).mono ?_); rintro e w1 ⟨rfl, rfl⟩)))
          go_ret
          exact ⟨by rw [Hf.out]; rfl, Keeps.alloc _ _⟩
        · rcases m3 : moneyB mi with _ | _
          · clear h
            go_enter Tryd.func16, Tryd.ntmps16
            go_wp2_with (first
              | (go_at_call 37; ((with_reducible refine (rDay20_any _ _).mono ?_); rintro e w1 ⟨rfl, rfl⟩))
              | (go_at_call 38; ((with_reducible refine (rMoney20_any _ _).mono ?_); rintro e w1 ⟨rfl, rfl⟩)))
            go_ret
            exact ⟨by rw [Hf.out]; rfl, Keeps.alloc _ _⟩
          · by_cases h9 : tot < mi
            · clear h
              go_enter Tryd.func16, Tryd.ntmps16
              go_wp2_with (first
                | (go_at_call 37; ((with_reducible refine (rDay20_any _ _).mono ?_); rintro e w1 ⟨rfl, rfl⟩))
                | (go_at_call 38; ((with_reducible refine (rMoney20_any _ _).mono ?_); rintro e w1 ⟨rfl, rfl⟩)))
              go_ret
              exact ⟨by rw [Hf.out]; rfl, Keeps.alloc _ _⟩
            · exfalso; rcases h with h | h | h | h <;> first | omega | (rw [m1, m2, m3] at h; simp at h)
set_option maxRecDepth 100000 in
set_option maxHeartbeats 3200000 in
theorem rpageRight_loop (s : Stm) (ad : Option Addr) (cap : Nat) (w : World) (h1 : 1 ≤ s.cycle) (h2 : s.cycle ≤ 300) (h3 : thereB [s.fr, s.te, s.due] = true) (h4 : s.fr ≤ s.te) (h5 : s.te ≤ s.due)
    (h6 : 1 ≤ s.lines.length) (h7 : s.lines.length ≤ 8) (h8 : mayB 1000000000000000 [s.total, s.credit, s.min] = true) (h9 : s.min ≤ s.total) (hr : Reads w 3 (.slice ad s.lines.length cap) s.lines.length (s.lines.flatMap Ln.cells)) :
    Calls Tryd.prog 16 #[s.val (.slice ad s.lines.length cap)] w fun e w' => e = .returned (.bool s.rightB) ∧ Keeps (fun _ => False) w w' := by
  have hf : s.rightB = (s.lines.all Ln.okB && decide (sumLn s.lines = s.total)) := by
    rw [Stm.rightB_split]
    simp [h1, h2, h3, h4, h5, h6, h7, h8, h9]
  obtain ⟨cy, fr, to, du, tot, cr, mi, gr, L⟩ := s
  simp only at h1 h2 h3 h4 h5 h6 h7 h8 h9 hf hr ⊢
  simp only [Stm.val]
  rw [hf]
  clear hf
  rw [thereB3, Bool.and_eq_true, Bool.and_eq_true] at h3
  obtain ⟨⟨d1, d2⟩, d3⟩ := h3
  rw [mayB3, Bool.and_eq_true, Bool.and_eq_true] at h8
  obtain ⟨⟨m1, m2⟩, m3⟩ := h8
  have hbox := heap_alloc_new w (.cells #[.int .i64 cy, .int .i64 fr, .int .i64 to, .int .i64 du, .slice ad L.length cap, .int .i64 tot, .int .i64 cr, .int .i64 mi, .bool gr] 26)
  have Hr := Lib.hid hr; clear hr; have Hbox := Lib.hid hbox; clear hbox
  go_enter Tryd.func16, Tryd.ntmps16
  go_wp2_with (first
    | (go_at_call 37; ((with_reducible refine (rDay20_any _ _).mono ?_); rintro e w1 ⟨rfl, rfl⟩))
    | (go_at_call 38; ((with_reducible refine (rMoney20_any _ _).mono ?_); rintro e w1 ⟨rfl, rfl⟩)))
  go_loopw [3, 4] (fun a c wr => ∃ j : Nat, j ≤ L.length ∧ c = .int .i64 (j : Nat) ∧ a = .int .i64 (sumLn (L.take j)) ∧ (L.take j).all Ln.okB = true ∧ Keeps (fun _ => False) w wr ∧ wr.heap[w.heap.size]? = some (.cells #[.int .i64 cy, .int .i64 fr, .int .i64 to, .int .i64 du, .slice ad L.length cap, .int .i64 tot, .int .i64 cr, .int .i64 mi, .bool gr] 26 (0, 0))) (fun _ c _ => L.length - (intOf c).toNat)
  case atStart => exact ⟨0, Nat.zero_le _, rfl, rfl, rfl, Keeps.alloc _ _, Hbox.out⟩
  case round =>
    obtain ⟨j, hj, rfl, rfl, hok, hk, hb⟩ := hrel
    have hbd := sumLn_bd hok
    obtain ⟨S, hS⟩ : ∃ S, sumLn (L.take j) = S := ⟨_, rfl⟩
    rw [hS] at hbd ⊢
    have hbd2 : S ≤ 8000000000000000 := by have := hbd.2; rw [List.length_take] at this; omega
    have hbd1 := hbd.1
    clear hbd
    have b4 := cell_of_cells hb 4
    have b5 := cell_of_cells hb 5
    have hbl := lt_of_block hb
    by_cases hjl : j < L.length
    · obtain ⟨⟨xb, xi, xr⟩, hx⟩ := get_some hjl
      obtain ⟨g, o, c, he, hc⟩ := (Hr.out.keeps hk (by simp)).elem Ln.cells_length hx (by decide)
      simp only [Value.slice.injEq, true_and] at he
      obtain ⟨rfl, rfl⟩ := he
      have x0 : wr.cell? ⟨g, o + j * 3, none⟩ = some (.int .i64 xb) := hc 0 (by decide)
      have x1 : wr.cell? ⟨g, o + j * 3 + 1, none⟩ = some (.int .i64 xi) := hc 1 (by decide)
      have x2 : wr.cell? ⟨g, o + j * 3 + 2, none⟩ = some (.int .i64 xr) := hc 2 (by decide)
      have hsn : sumLn (L.take (j + 1)) = S + xb := by rw [take_snoc' hx, sumLn_snoc, hS]
      have hok1 : Ln.okB ⟨xb, xi, xr⟩ = (moneyB xb && moneyB xi && decide (0 ≤ xr ∧ xr ≤ 10000000)) := by unfold Ln.okB; rw [mayB2]; simp [mayB]
      have han : (L.take (j + 1)).all Ln.okB = (moneyB xb && moneyB xi && decide (0 ≤ xr ∧ xr ≤ 10000000)) := by rw [take_snoc' hx, List.all_append, hok]; simp [hok1]
      have hno : (moneyB xb && moneyB xi && decide (0 ≤ xr ∧ xr ≤ 10000000)) = false → (L.all Ln.okB && decide (sumLn L = tot)) = false := fun h => by rw [okB_false hx (by rw [hok1]; exact h)]; rfl
      clear hc hok1
      rcases n1 : moneyB xb with _ | _
      · have hf := hno (by rw [n1]; rfl)
        clear hbd1 hbd2 h9
        have Hx := Lib.hid hx; clear hx; have Hsn := Lib.hid hsn; clear hsn; have Han := Lib.hid han; clear han; have Hno := Lib.hid hno; clear hno; have Hk := Lib.hid hk; clear hk; have Hb := Lib.hid hb; clear hb; have HS := Lib.hid hS; clear hS; have Hok := Lib.hid hok; clear hok; have Hf := Lib.hid hf; clear hf
        go_wp2_with (go_at_call 38; ((with_reducible refine (rMoney20_any _ _).mono ?_); rintro e w1 ⟨rfl, rfl⟩))
        go_ret
        exact ⟨by rw [Hf.out]; rfl, Hk.out.trans (Keeps.alloc _ _)⟩
      · rcases n2 : moneyB xi with _ | _
        · have hf := hno (by rw [n1, n2]; rfl)
          clear hbd1 hbd2 h9
          have Hx := Lib.hid hx; clear hx; have Hsn := Lib.hid hsn; clear hsn; have Han := Lib.hid han; clear han; have Hno := Lib.hid hno; clear hno; have Hk := Lib.hid hk; clear hk; have Hb := Lib.hid hb; clear hb; have HS := Lib.hid hS; clear hS; have Hok := Lib.hid hok; clear hok; have Hf := Lib.hid hf; clear hf
          go_wp2_with (go_at_call 38; ((with_reducible refine (rMoney20_any _ _).mono ?_); rintro e w1 ⟨rfl, rfl⟩))
          go_ret
          exact ⟨by rw [Hf.out]; rfl, Hk.out.trans (Keeps.alloc _ _)⟩
        · by_cases n3 : xr < 0
          · have hf := hno (by rw [n1, n2]; simp; omega)
            clear hbd1 hbd2 h9
            have Hx := Lib.hid hx; clear hx; have Hsn := Lib.hid hsn; clear hsn; have Han := Lib.hid han; clear han; have Hno := Lib.hid hno; clear hno; have Hk := Lib.hid hk; clear hk; have Hb := Lib.hid hb; clear hb; have HS := Lib.hid hS; clear hS; have Hok := Lib.hid hok; clear hok; have Hf := Lib.hid hf; clear hf
            go_wp2_with (go_at_call 38; ((with_reducible refine (rMoney20_any _ _).mono ?_); rintro e w1 ⟨rfl, rfl⟩))
            go_ret
            exact ⟨by rw [Hf.out]; rfl, Hk.out.trans (Keeps.alloc _ _)⟩
          · by_cases n4 : 10000000 < xr
            · have hf := hno (by rw [n1, n2]; simp; omega)
              clear hbd1 hbd2 h9
              have Hx := Lib.hid hx; clear hx; have Hsn := Lib.hid hsn; clear hsn; have Han := Lib.hid han; clear han; have Hno := Lib.hid hno; clear hno; have Hk := Lib.hid hk; clear hk; have Hb := Lib.hid hb; clear hb; have HS := Lib.hid hS; clear hS; have Hok := Lib.hid hok; clear hok; have Hf := Lib.hid hf; clear hf
              go_wp2_with (go_at_call 38; ((with_reducible refine (rMoney20_any _ _).mono ?_); rintro e w1 ⟨rfl, rfl⟩))
              go_ret
              exact ⟨by rw [Hf.out]; rfl, Hk.out.trans (Keeps.alloc _ _)⟩
            · have hok' : (L.take (j + 1)).all Ln.okB = true := by rw [han, n1, n2]; simp; omega
              have hxb : 0 ≤ xb ∧ xb ≤ 1000000000000000 := by simpa [moneyB] using n1
              have hw1 : IntKind.i64.wrap (S + xb) = S + xb := IntWalk.i64_in _ (by omega)
              clear hxb hbd1 hbd2 h9
              have Hx := Lib.hid hx; clear hx; have Hsn := Lib.hid hsn; clear hsn; have Han := Lib.hid han; clear han; have Hno := Lib.hid hno; clear hno; have Hk := Lib.hid hk; clear hk; have Hb := Lib.hid hb; clear hb; have HS := Lib.hid hS; clear hS; have Hok := Lib.hid hok; clear hok; have Hok' := Lib.hid hok'; clear hok'
              go_wp2_with (go_at_call 38; ((with_reducible refine (rMoney20_any _ _).mono ?_); rintro e w1 ⟨rfl, rfl⟩))
              go_roundw
              case rel => exact ⟨j + 1, by omega, by go_num, by rw [Hsn.out], Hok'.out, Hk.out.trans (Keeps.alloc _ _), box_alloc Hb.out _⟩
              case measure => simp [intOf]; omega
    · obtain rfl : j = L.length := by omega
      rw [List.take_length] at hok hS
      have hfin : (L.all Ln.okB && decide (sumLn L = tot)) = decide (S = tot) := by rw [hok, hS]; rfl
      clear hbd1 hbd2
      have Hk := Lib.hid hk; clear hk; have Hb := Lib.hid hb; clear hb; have Hok := Lib.hid hok; clear hok; have HS := Lib.hid hS; clear hS; have Hfin := Lib.hid hfin; clear hfin
      go_wp2
      go_ret
      exact ⟨by rw [Hfin.out]; rfl, Hk.out⟩
theorem rpageRight_any (s : Stm) (ad : Option Addr) (cap : Nat) (w : World) (hr : Reads w 3 (.slice ad s.lines.length cap) s.lines.length (s.lines.flatMap Ln.cells)) (hl : s.lines.length ≤ 1000000) :
    Calls Tryd.prog 16 #[s.val (.slice ad s.lines.length cap)] w fun e w' => e = .returned (.bool s.rightB) ∧ Keeps (fun _ => False) w w' := by
  by_cases h1 : 1 ≤ s.cycle
  · by_cases h2 : s.cycle ≤ 300
    · rcases h3 : thereB [s.fr, s.te, s.due] with _ | _
      · exact rpageRight_wrong1 s ad cap w (.inr (.inr (.inl h3))) hl
      · by_cases h4 : s.fr ≤ s.te
        · by_cases h5 : s.te ≤ s.due
          · by_cases h6 : 1 ≤ s.lines.length
            · by_cases h7 : s.lines.length ≤ 8
              · rcases h8 : mayB 1000000000000000 [s.total, s.credit, s.min] with _ | _
                · exact rpageRight_wrong2 s ad cap w h1 h2 h3 h4 h5 (.inr (.inr (.inl h8))) hl
                · by_cases h9 : s.min ≤ s.total
                  · exact rpageRight_loop s ad cap w h1 h2 h3 h4 h5 h6 h7 h8 h9 hr
                  · exact rpageRight_wrong2 s ad cap w h1 h2 h3 h4 h5 (.inr (.inr (.inr h9))) hl
              · exact rpageRight_wrong2 s ad cap w h1 h2 h3 h4 h5 (.inr (.inl h7)) hl
            · exact rpageRight_wrong2 s ad cap w h1 h2 h3 h4 h5 (.inl h6) hl
          · exact rpageRight_wrong1 s ad cap w (.inr (.inr (.inr (.inr h5)))) hl
        · exact rpageRight_wrong1 s ad cap w (.inr (.inr (.inr (.inl h4)))) hl
    · exact rpageRight_wrong1 s ad cap w (.inr (.inl h2)) hl
  · exact rpageRight_wrong1 s ad cap w (.inl h1) hl
end Go.Proofs.YthokcmbgamanbaaDoor
