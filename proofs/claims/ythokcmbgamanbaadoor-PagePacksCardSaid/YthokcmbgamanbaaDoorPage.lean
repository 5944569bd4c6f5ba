/- The walks of the page layer: may these be, is it right. -/
import Derived.Test.YthokcmbgamanbaaDoorPagePlain
namespace Go.Proofs.YthokcmbgamanbaaDoor
open Go.RowKit
theorem mayB_snoc (most : Int) (L : List Int) (x : Int) : mayB most (L ++ [x]) = (mayB most L && decide (0 ≤ x ∧ x ≤ most)) := by simp [mayB]
theorem mayB_false {most : Int} {L : List Int} {k : Nat} {x : Int} (h : L[k]? = some x) (hx : x < 0 ∨ most < x) : mayB most L = false := by
  rw [Bool.eq_false_iff]; intro hm
  have := mayB_iff.1 hm x (List.mem_of_getElem? h); omega
set_option maxRecDepth 100000 in
set_option maxHeartbeats 400000 in
theorem pageMay_any (most : Int) (ad : Option Addr) (cap : Nat) (L : List Int) (w : World) (hr : Reads w 1 (.slice ad L.length cap) L.length (L.flatMap i64c)) (hl : L.length ≤ 1000) :
    Calls Tryd.prog 24 #[.int .i64 most, .slice ad L.length cap] w fun e w' => e = .returned (.bool (mayB most L)) ∧ w = w' := by
  have Hr := Lib.hid hr; clear hr
  go_enter Tryd.func24, Tryd.ntmps24
  go_wp2
  go_loop [9] (fun c => ∃ j : Nat, j ≤ L.length ∧ c = .int .i64 (j : Nat) ∧ mayB most (L.take j) = true) (fun c => L.length - (intOf c).toNat)
  case atStart => exact ⟨0, Nat.zero_le _, rfl, rfl⟩
  case round =>
    obtain ⟨j, hj, rfl, hok⟩ := hrel
    by_cases hjl : j < L.length
    · obtain ⟨x, hx⟩ := get_some hjl
      obtain ⟨g, o, rfl, x0⟩ := Hr.out.int hx
      have hsn := mayB_snoc most (L.take j) x
      rw [← take_snoc' hx, hok] at hsn
      by_cases h1 : x < 0
      · have hf := mayB_false hx (most := most) (.inl h1)
        have Hf := Lib.hid hf; clear hf; have Hsn := Lib.hid hsn; clear hsn; have Hx := Lib.hid hx; clear hx
        go_wp2
        go_ret
        exact ⟨by rw [Hf.out]; rfl, rfl⟩
      · by_cases h2 : most < x
        · have hf := mayB_false hx (most := most) (.inr h2)
          have Hf := Lib.hid hf; clear hf; have Hsn := Lib.hid hsn; clear hsn; have Hx := Lib.hid hx; clear hx
          go_wp2
          go_ret
          exact ⟨by rw [Hf.out]; rfl, rfl⟩
        · have hok' : mayB most (L.take (j + 1)) = true := by rw [hsn]; simp; omega
          have Hsn := Lib.hid hsn; clear hsn; have Hx := Lib.hid hx; clear hx; have Hok := Lib.hid hok; clear hok; have Hok' := Lib.hid hok'; clear hok'
          go_wp2
          go_round
          case rel => exact ⟨j + 1, by omega, by go_num, Hok'.out⟩
          case measure => simp [intOf]; omega
    · obtain rfl : j = L.length := by omega
      rw [List.take_length] at hok
      have Hok := Lib.hid hok; clear hok
      go_wp2
      go_ret
      exact ⟨by rw [Hok.out]; rfl, rfl⟩
def thereB (L : List Int) : Bool := L.all dayB
theorem thereB_snoc (L : List Int) (x : Int) : thereB (L ++ [x]) = (thereB L && dayB x) := by simp [thereB]
theorem thereB_false {L : List Int} {k : Nat} {x : Int} (h : L[k]? = some x) (hx : x < -135140 ∨ 2932896 < x) : thereB L = false := by
  rw [Bool.eq_false_iff]; intro hm
  have := List.all_eq_true.1 hm x (List.mem_of_getElem? h)
  simp [dayB] at this; omega
set_option maxRecDepth 100000 in
set_option maxHeartbeats 400000 in
theorem pageThere_any (ad : Option Addr) (cap : Nat) (L : List Int) (w : World) (hr : Reads w 1 (.slice ad L.length cap) L.length (L.flatMap i64c)) (hl : L.length ≤ 1000) :
    Calls Tryd.prog 23 #[.slice ad L.length cap] w fun e w' => e = .returned (.bool (thereB L)) ∧ w = w' := by
  have Hr := Lib.hid hr; clear hr
  go_enter Tryd.func23, Tryd.ntmps23
  go_wp2
  go_loop [7] (fun c => ∃ j : Nat, j ≤ L.length ∧ c = .int .i64 (j : Nat) ∧ thereB (L.take j) = true) (fun c => L.length - (intOf c).toNat)
  case atStart => exact ⟨0, Nat.zero_le _, rfl, rfl⟩
  case round =>
    obtain ⟨j, hj, rfl, hok⟩ := hrel
    by_cases hjl : j < L.length
    · obtain ⟨x, hx⟩ := get_some hjl
      obtain ⟨g, o, rfl, x0⟩ := Hr.out.int hx
      have hsn := thereB_snoc (L.take j) x
      rw [← take_snoc' hx, hok] at hsn
      by_cases h1 : x < -135140
      · have hf := thereB_false hx (.inl h1)
        have Hf := Lib.hid hf; clear hf; have Hsn := Lib.hid hsn; clear hsn; have Hx := Lib.hid hx; clear hx
        go_wp2
        go_ret
        exact ⟨by rw [Hf.out]; rfl, rfl⟩
      · by_cases h2 : 2932896 < x
        · have hf := thereB_false hx (.inr h2)
          have Hf := Lib.hid hf; clear hf; have Hsn := Lib.hid hsn; clear hsn; have Hx := Lib.hid hx; clear hx
          go_wp2
          go_ret
          exact ⟨by rw [Hf.out]; rfl, rfl⟩
        · have hok' : thereB (L.take (j + 1)) = true := by rw [hsn]; simp [dayB]; omega
          have Hsn := Lib.hid hsn; clear hsn; have Hx := Lib.hid hx; clear hx; have Hok := Lib.hid hok; clear hok; have Hok' := Lib.hid hok'; clear hok'
          go_wp2
          go_round
          case rel => exact ⟨j + 1, by omega, by go_num, Hok'.out⟩
          case measure => simp [intOf]; omega
    · obtain rfl : j = L.length := by omega
      rw [List.take_length] at hok
      have Hok := Lib.hid hok; clear hok
      go_wp2
      go_ret
      exact ⟨by rw [Hok.out]; rfl, rfl⟩
theorem Stm.rightB_split (s : Stm) : s.rightB = (decide (1 ≤ s.cycle) && decide (s.cycle ≤ 300) && thereB [s.fr, s.te, s.due] && decide (s.fr ≤ s.te) && decide (s.te ≤ s.due) && decide (1 ≤ s.lines.length) && decide (s.lines.length ≤ 8) &&
    mayB 1000000000000000 [s.total, s.credit, s.min] && decide (s.min ≤ s.total) && s.lines.all Ln.okB && decide (sumLn s.lines = s.total)) := by
  simp only [Stm.rightB, thereB, Bool.decide_and, List.all_cons, List.all_nil, Bool.and_true, Bool.and_assoc]
theorem okB_false {L : List Ln} {k : Nat} {x : Ln} (h : L[k]? = some x) (hx : x.okB = false) : L.all Ln.okB = false := by
  rw [Bool.eq_false_iff]; intro hm
  have := List.all_eq_true.1 hm x (List.mem_of_getElem? h)
  rw [hx] at this; simp at this
theorem sumLn_snoc (L : List Ln) (x : Ln) : sumLn (L ++ [x]) = sumLn L + x.balance := by simp [sumLn]
theorem sumLn_bd {L : List Ln} (h : L.all Ln.okB = true) : 0 ≤ sumLn L ∧ sumLn L ≤ L.length * 1000000000000000 := by
  induction L with
  | nil => simp [sumLn]
  | cons a l ih =>
    rw [List.all_cons, Bool.and_eq_true] at h
    have h1 := (Ln.ok_iff a).1 h.1
    have h2 := ih h.2
    rw [sumLn_cons]; simp; omega
theorem lit3 {w : World} {B : Nat} (hB : B = w.heap.size) (t : TypeId) (a b c : Int) : Reads (w.alloc (.cells #[.int .i64 a, .int .i64 b, .int .i64 c] t)) 1 (.slice (some ⟨B, 0, none⟩) 3 3) 3 ([a, b, c].flatMap i64c) := Reads.litAt _ #[.int .i64 a, .int .i64 b, .int .i64 c] _ _ _ _ hB rfl
theorem lit2 {w : World} {B : Nat} (hB : B = w.heap.size) (t : TypeId) (a b : Int) : Reads (w.alloc (.cells #[.int .i64 a, .int .i64 b] t)) 1 (.slice (some ⟨B, 0, none⟩) 2 2) 2 ([a, b].flatMap i64c) := Reads.litAt _ #[.int .i64 a, .int .i64 b] _ _ _ _ hB rfl
theorem lit1 {w : World} {B : Nat} (hB : B = w.heap.size) (t : TypeId) (a : Int) : Reads (w.alloc (.cells #[.int .i64 a] t)) 1 (.slice (some ⟨B, 0, none⟩) 1 1) 1 ([a].flatMap i64c) := Reads.litAt _ #[.int .i64 a] _ _ _ _ hB rfl
theorem pageThere3 {w : World} {B : Nat} (hB : B = w.heap.size) (t : TypeId) (a b c : Int) : Calls Tryd.prog 23 #[.slice (some ⟨B, 0, none⟩) 3 3] (w.alloc (.cells #[.int .i64 a, .int .i64 b, .int .i64 c] t)) fun e w' => e = .returned (.bool (thereB [a, b, c])) ∧ (w.alloc (.cells #[.int .i64 a, .int .i64 b, .int .i64 c] t)) = w' :=
  pageThere_any _ _ [a, b, c] _ (lit3 hB _ a b c) (by simp)
theorem pageMay3 {w : World} {B : Nat} (hB : B = w.heap.size) (t : TypeId) (m a b c : Int) : Calls Tryd.prog 24 #[.int .i64 m, .slice (some ⟨B, 0, none⟩) 3 3] (w.alloc (.cells #[.int .i64 a, .int .i64 b, .int .i64 c] t)) fun e w' => e = .returned (.bool (mayB m [a, b, c])) ∧ (w.alloc (.cells #[.int .i64 a, .int .i64 b, .int .i64 c] t)) = w' :=
  pageMay_any m _ _ [a, b, c] _ (lit3 hB _ a b c) (by simp)
theorem pageMay2 {w : World} {B : Nat} (hB : B = w.heap.size) (t : TypeId) (m a b : Int) : Calls Tryd.prog 24 #[.int .i64 m, .slice (some ⟨B, 0, none⟩) 2 2] (w.alloc (.cells #[.int .i64 a, .int .i64 b] t)) fun e w' => e = .returned (.bool (mayB m [a, b])) ∧ (w.alloc (.cells #[.int .i64 a, .int .i64 b] t)) = w' :=
  pageMay_any m _ _ [a, b] _ (lit2 hB _ a b) (by simp)
theorem pageMay1 {w : World} {B : Nat} (hB : B = w.heap.size) (t : TypeId) (m a : Int) : Calls Tryd.prog 24 #[.int .i64 m, .slice (some ⟨B, 0, none⟩) 1 1] (w.alloc (.cells #[.int .i64 a] t)) fun e w' => e = .returned (.bool (mayB m [a])) ∧ (w.alloc (.cells #[.int .i64 a] t)) = w' :=
  pageMay_any m _ _ [a] _ (lit1 hB _ a) (by simp)
set_option maxRecDepth 100000 in
set_option maxHeartbeats 800000 in
theorem pageRight_wrong1 (s : Stm) (ad : Option Addr) (cap : Nat) (w : World) (h : ¬ (1 ≤ s.cycle) ∨ ¬ (s.cycle ≤ 300) ∨ thereB [s.fr, s.te, s.due] = false ∨ ¬ s.fr ≤ s.te ∨ ¬ s.te ≤ s.due) (hl : s.lines.length ≤ 1000000) :
    Calls Tryd.prog 9 #[s.val (.slice ad s.lines.length cap)] w fun e w' => e = .returned (.bool s.rightB) ∧ Keeps (fun _ => False) w w' := by
  have hf : s.rightB = false := by
    rw [Stm.rightB_split]
    rcases h with h | h | h | h | h <;> simp [h]
  obtain ⟨cy, fr, to, du, tot, cr, mi, gr, L⟩ := s
  simp only at h hl ⊢
  simp only [Stm.val]
  have Hf := Lib.hid hf; clear hf
  by_cases h1 : cy < 1
  · clear h
    go_enter Tryd.func9, Tryd.ntmps9
    go_wp2
    refine wp_scope_ahead 0 rfl ?_
    go_wp2_with (first
      | (go_at_call 23; ((with_reducible refine (pageThere3 (by simp) _ fr to du).mono ?_); rintro e w1 ⟨rfl, rfl⟩))
      | (go_at_call 24; ((with_reducible refine (pageMay3 (by simp) _ _ tot cr mi).mono ?_); rintro e w1 ⟨rfl, rfl⟩)))
    go_step3
    go_wp2
    refine jump_goto ?_
    go_wp2
    rw [Exit.noGoto_ret]
    go_ret
    exact ⟨by rw [Hf.out]; rfl, by first | exact Keeps.alloc _ _ | exact (Keeps.alloc _ _).trans (Keeps.alloc _ _) | exact ((Keeps.alloc _ _).trans (Keeps.alloc _ _)).trans (Keeps.alloc _ _)⟩
  · by_cases h2 : 300 < cy
    · clear h
      go_enter Tryd.func9, Tryd.ntmps9
      go_wp2
      refine wp_scope_ahead 0 rfl ?_
      go_wp2_with (first
        | (go_at_call 23; ((with_reducible refine (pageThere3 (by simp) _ fr to du).mono ?_); rintro e w1 ⟨rfl, rfl⟩))
        | (go_at_call 24; ((with_reducible refine (pageMay3 (by simp) _ _ tot cr mi).mono ?_); rintro e w1 ⟨rfl, rfl⟩)))
      go_step3
      go_wp2
      refine jump_goto ?_
      go_wp2
      rw [Exit.noGoto_ret]
      go_ret
      exact ⟨by rw [Hf.out]; rfl, by first | exact Keeps.alloc _ _ | exact (Keeps.alloc _ _).trans (Keeps.alloc _ _) | exact ((Keeps.alloc _ _).trans (Keeps.alloc _ _)).trans (Keeps.alloc _ _)⟩
    · rcases h3 : thereB [fr, to, du] with _ | _
      · clear h
        go_enter Tryd.func9, Tryd.ntmps9
        go_wp2
        refine wp_scope_ahead 0 rfl ?_
        go_wp2_with (first
          | (go_at_call 23; ((with_reducible refine (pageThere3 (by simp) _ fr to du).mono ?_); rintro e w1 ⟨rfl, rfl⟩))
          | (go_at_call 24; ((with_reducible refine (pageMay3 (by simp) _ _ tot cr mi).mono ?_); rintro e w1 ⟨rfl, rfl⟩)))
        go_step3
        go_wp2
        refine jump_goto ?_
        go_wp2
        rw [Exit.noGoto_ret]
        go_ret
        exact ⟨by rw [Hf.out]; rfl, by first | exact Keeps.alloc _ _ | exact (Keeps.alloc _ _).trans (Keeps.alloc _ _) | exact ((Keeps.alloc _ _).trans (Keeps.alloc _ _)).trans (Keeps.alloc _ _)⟩
      · by_cases h4 : to < fr
        · clear h
          go_enter Tryd.func9, Tryd.ntmps9
          go_wp2
          refine wp_scope_ahead 0 rfl ?_
          go_wp2_with (first
            | (go_at_call 23; ((with_reducible refine (pageThere3 (by simp) _ fr to du).mono ?_); rintro e w1 ⟨rfl, rfl⟩))
            | (go_at_call 24; ((with_reducible refine (pageMay3 (by simp) _ _ tot cr mi).mono ?_); rintro e w1 ⟨rfl, rfl⟩)))
          go_step3
          go_wp2
          refine jump_goto ?_
          go_wp2
          rw [Exit.noGoto_ret]
          go_ret
          exact ⟨by rw [Hf.out]; rfl, by first | exact Keeps.alloc _ _ | exact (Keeps.alloc _ _).trans (Keeps.alloc _ _) | exact ((Keeps.alloc _ _).trans (Keeps.alloc _ _)).trans (Keeps.alloc _ _)⟩
        · by_cases h5 : du < to
          · clear h
            go_enter Tryd.func9, Tryd.ntmps9
            go_wp2
            refine wp_scope_ahead 0 rfl ?_
            go_wp2_with (first
              | (go_at_call 23; ((with_reducible refine (pageThere3 (by simp) _ fr to du).mono ?_); rintro e w1 ⟨rfl, rfl⟩))
              | (go_at_call 24; ((with_reducible refine (pageMay3 (by simp) _ _ tot cr mi).mono ?_); rintro e w1 ⟨rfl, rfl⟩)))
            go_step3
            go_wp2
            refine jump_goto ?_
            go_wp2
            rw [Exit.noGoto_ret]
            go_ret
            exact ⟨by rw [Hf.out]; rfl, by first | exact Keeps.alloc _ _ | exact (Keeps.alloc _ _).trans (Keeps.alloc _ _) | exact ((Keeps.alloc _ _).trans (Keeps.alloc _ _)).trans (Keeps.alloc _ _)⟩
          · exfalso; rcases h with h | h | h | h | h <;> first | omega | (rw [h3] at h; simp at h)
set_option maxRecDepth 100000 in
set_option maxHeartbeats 800000 in
theorem pageRight_wrong2 (s : Stm) (ad : Option Addr) (cap : Nat) (w : World) (h1 : 1 ≤ s.cycle) (h2 : s.cycle ≤ 300) (h3 : thereB [s.fr, s.te, s.due] = true) (h4 : s.fr ≤ s.te) (h5 : s.te ≤ s.due)
    (h : ¬ (1 ≤ s.lines.length) ∨ ¬ (s.lines.length ≤ 8) ∨ mayB 1000000000000000 [s.total, s.credit, s.min] = false ∨ ¬ s.min ≤ s.total) (hl : s.lines.length ≤ 1000000) :
    Calls Tryd.prog 9 #[s.val (.slice ad s.lines.length cap)] w fun e w' => e = .returned (.bool s.rightB) ∧ Keeps (fun _ => False) w w' := by
  have hf : s.rightB = false := by
    rw [Stm.rightB_split]
    rcases h with h | h | h | h <;> simp [h]
  obtain ⟨cy, fr, to, du, tot, cr, mi, gr, L⟩ := s
  simp only at h1 h2 h3 h4 h5 h hl ⊢
  simp only [Stm.val]
  obtain ⟨n, hn⟩ : ∃ n, L.length = n := ⟨_, rfl⟩
  rw [hn] at h hl ⊢
  have Hf := Lib.hid hf; clear hf; have Hn := Lib.hid hn; clear hn
  by_cases h6 : n < 1
  · clear h
    go_enter Tryd.func9, Tryd.ntmps9
    go_wp2
    refine wp_scope_ahead 0 rfl ?_
    go_wp2_with (first
      | (go_at_call 23; ((with_reducible refine (pageThere3 (by simp) _ fr to du).mono ?_); rintro e w1 ⟨rfl, rfl⟩))
      | (go_at_call 24; ((with_reducible refine (pageMay3 (by simp) _ _ tot cr mi).mono ?_); rintro e w1 ⟨rfl, rfl⟩)))
    go_step3
    go_wp2
    refine jump_goto ?_
    go_wp2
    rw [Exit.noGoto_ret]
    go_ret
    exact ⟨by rw [Hf.out]; rfl, by first | exact Keeps.alloc _ _ | exact (Keeps.alloc _ _).trans (Keeps.alloc _ _) | exact ((Keeps.alloc _ _).trans (Keeps.alloc _ _)).trans (Keeps.alloc _ _)⟩
  · by_cases h7 : 8 < n
    · clear h
      go_enter Tryd.func9, Tryd.ntmps9
      go_wp2
      refine wp_scope_ahead 0 rfl ?_
      go_wp2_with (first
        | (go_at_call 23; ((with_reducible refine (pageThere3 (by simp) _ fr to du).mono ?_); rintro e w1 ⟨rfl, rfl⟩))
        | (go_at_call 24; ((with_reducible refine (pageMay3 (by simp) _ _ tot cr mi).mono ?_); rintro e w1 ⟨rfl, rfl⟩)))
      go_step3
      go_wp2
      refine jump_goto ?_
      go_wp2
      rw [Exit.noGoto_ret]
      go_ret
      exact ⟨by rw [Hf.out]; rfl, by first | exact Keeps.alloc _ _ | exact (Keeps.alloc _ _).trans (Keeps.alloc _ _) | exact ((Keeps.alloc _ _).trans (Keeps.alloc _ _)).trans (Keeps.alloc _ _)⟩
    · rcases h8 : mayB 1000000000000000 [tot, cr, mi] with _ | _
      · clear h
        go_enter Tryd.func9, Tryd.ntmps9
        go_wp2
        refine wp_scope_ahead 0 rfl ?_
        go_wp2_with (first
          | (go_at_call 23; ((with_reducible refine (pageThere3 (by simp) _ fr to du).mono ?_); rintro e w1 ⟨rfl, rfl⟩))
          | (go_at_call 24; ((with_reducible refine (pageMay3 (by simp) _ _ tot cr mi).mono ?_); rintro e w1 ⟨rfl, rfl⟩)))
        go_step3
        go_wp2
        refine jump_goto ?_
        go_wp2
        rw [Exit.noGoto_ret]
        go_ret
        exact ⟨by rw [Hf.out]; rfl, by first | exact Keeps.alloc _ _ | exact (Keeps.alloc _ _).trans (Keeps.alloc _ _) | exact ((Keeps.alloc _ _).trans (Keeps.alloc _ _)).trans (Keeps.alloc _ _)⟩
      · by_cases h9 : tot < mi
        · clear h
          go_enter Tryd.func9, Tryd.ntmps9
          go_wp2
          refine wp_scope_ahead 0 rfl ?_
          go_wp2_with (first
            | (go_at_call 23; ((with_reducible refine (pageThere3 (by simp) _ fr to du).mono ?_); rintro e w1 ⟨rfl, rfl⟩))
            | (go_at_call 24; ((with_reducible refine (pageMay3 (by simp) _ _ tot cr mi).mono ?_); rintro e w1 ⟨rfl, rfl⟩)))
          go_step3
          go_wp2
          refine jump_goto ?_
          go_wp2
          rw [Exit.noGoto_ret]
          go_ret
          exact ⟨by rw [Hf.out]; rfl, by first | exact Keeps.alloc _ _ | exact (Keeps.alloc _ _).trans (Keeps.alloc _ _) | exact ((Keeps.alloc _ _).trans (Keeps.alloc _ _)).trans (Keeps.alloc _ _)⟩
        · exfalso; rcases h with h | h | h | h <;> first | omega | (rw [h8] at h; simp at h)
end Go.Proofs.YthokcmbgamanbaaDoor
