/- The walks of the series layer: New, place. -/
import Derived.Test.YtddmmnkhblcpiaaPlainSer
namespace Go.Proofs.Ytddmmnkhblcpiaa
open Go.RowKit
/-- A series in memory. -/
structure SerAt (w : World) (b : Nat) (v : Value) (f : Int) (L : List Turn) : Prop where
  blk : w.heap[b]? = some (.cells #[.int .i64 f, v] 52 (0, 0))
  row : w.ownsRow 0 55 2 v L.length (L.flatMap Turn.cells)
  ok : SerOk f L
  fb : -1099511627776 ≤ f ∧ f ≤ 1099511627776
def Foot (b : Nat) (v : Value) (k : Nat) : Prop := k = b ∨ v.ownBlock = some k
def clampT (f : Int) : Int := min (max f (-1099511627776)) 1099511627776
theorem ser_eq {w : World} {a b : Int} {v : Value} {t : TypeId} (h : a = b) : w.alloc (.cells #[.int .i64 a, v] t) = w.alloc (.cells #[.int .i64 b, v] t) := by rw [h]
set_option maxRecDepth 100000 in
set_option maxHeartbeats 400000 in
theorem serNew_any (f : Int) (w : World) : Calls Try.prog 7 #[.int .i64 f] w fun e w' => e = .returned (.pointer (some ⟨w.heap.size, 0, none⟩)) ∧ w' = w.alloc (.cells #[.int .i64 (clampT f), .slice none 0 0] 52) := by
  go_enter Try.func7, Try.ntmps7
  go_wp2
  all_goals
    go_ret
    exact ⟨rfl, ser_eq (by unfold clampT; omega)⟩
def placeJ (w : World) (b : Nat) (d : Int) (L : List Turn) (a' : Act) (w' : World) : Prop := w = w' ∧ ∃ (k : Nat) (u2 u3 u6 u7 u8 u9 u10 u11 u12 u13 u14 u15 u16 u17 u18 u19 u20 u21 u22 u23 u24 u25 u26 u27 u28 : Value), a' = { tmps := #[(.pointer (some ⟨b, 0, none⟩)), .int .i64 d, u2, u3, .int .i64 0, .int .i64 k, u6, u7, u8, u9, u10, u11, u12, u13, u14, u15, u16, u17, u18, u19, u20, u21, u22, u23, u24, u25, u26, u27, u28], defers := [] } ∧ k ≤ L.length ∧ ∀ j t, k ≤ j → L[j]? = some t → d < t.day
def slotM (i : Nat) (a' : Act) : Nat := (intOf (a'.tmps.getD i undef)).toNat
set_option maxRecDepth 100000 in
set_option maxHeartbeats 400000 in
theorem serPlace_any (d : Int) (b : Nat) (v : Value) (f : Int) (L : List Turn) (w : World) (h : SerAt w b v f L) (hl : L.length ≤ 100000) : Calls Try.prog 19 #[(.pointer (some ⟨b, 0, none⟩)), .int .i64 d] w fun e w' => ∃ k : Nat, e = .returned (.int .i64 k) ∧ Parts L d k ∧ w = w' := by
  have c1 := cell_of_cells h.blk 1
  obtain ⟨ad, cap, rfl, hcap, hnone⟩ := ownsRow_shape h.row
  have hreads := Reads.of_owns h.row
  have hris := h.ok.1
  have H := Lib.hid h; clear h; have Hreads := Lib.hid hreads; clear hreads; have Hris := Lib.hid hris; clear hris
  go_enter Try.func19, Try.ntmps19
  go_wp2
  refine wp_scope_jumps 0 (placeJ w b d L) (fun a' _ => slotM 5 a') rfl ?_ ?_
  · obtain ⟨k, hkl⟩ : ∃ k, k = L.length := ⟨_, rfl⟩
    have hj : ∀ j t, k ≤ j → L[j]? = some t → d < t.day := fun j t h1 h2 => by have := lt_of_get h2; omega
    have hk : k ≤ L.length := by omega
    have hkl' := hkl.symm
    clear hkl
    have Hj := Lib.hid hj; clear hj
    go_wp2
    go_step3
    by_cases h0 : k = 0
    · subst h0
      go_wp2
      refine jump_ret ?_
      go_ret
      exact ⟨0, rfl, ⟨Nat.zero_le _, Hj.out, fun j t h => by omega⟩, rfl⟩
    · obtain ⟨m, rfl⟩ : ∃ m, k = m + 1 := ⟨k - 1, by omega⟩
      obtain ⟨x, hx⟩ : ∃ x, L[m]? = some x := ⟨L[m], List.getElem?_eq_getElem (by omega)⟩
      obtain ⟨g, o, c, he, hc⟩ := Hreads.out.elem Turn.cells_length hx (by decide)
      simp only [Value.slice.injEq, true_and] at he
      obtain ⟨rfl, rfl⟩ := he
      obtain ⟨xd, xb⟩ := x
      have x0 : w.cell? ⟨g, o + m * 2, none⟩ = some (.int .i64 xd) := hc 0 (by decide)
      clear hc hnone
      have Hx := Lib.hid hx; clear hx
      by_cases hd : d < xd
      · go_wp2
        go_step3
        go_wp2
        refine jump_goto 
          ⟨rfl, m, _, _, _, _, _, _, _, _, _, _, _, _, _, _, _, _, _, _, _, _, _, _, _, _, _, rfl, by omega, fun j t hjm ht => by
          rcases Nat.lt_or_ge j (m + 1) with h | h
          · obtain rfl : j = m := by omega
            rw [Hx.out] at ht; cases ht; exact hd
          · exact Hj.out j t h ht⟩
      · have Hd := Lib.hid hd
        go_wp2
        refine jump_ret ?_
        go_ret
        exact ⟨m + 1, by go_num, ⟨hk, Hj.out, fun j t hjm ht => by
          rcases Nat.lt_or_ge j m with h | h
          · have := Hris.out.get h ht Hx.out; have := Hd.out; simp only at *; omega
          · obtain rfl : j = m := by omega
            rw [Hx.out] at ht; cases ht; have := Hd.out; simp only; omega⟩, rfl⟩
  · rintro a' w' ⟨rfl, k, u2, u3, u6, u7, u8, u9, u10, u11, u12, u13, u14, u15, u16, u17, u18, u19, u20, u21, u22, u23, u24, u25, u26, u27, u28, rfl, hk, hj⟩
    have Hj := Lib.hid hj; clear hj
    by_cases h0 : k = 0
    · subst h0
      go_wp2
      refine jump_ret ?_
      go_ret
      exact ⟨0, rfl, ⟨Nat.zero_le _, Hj.out, fun j t h => by omega⟩, rfl⟩
    · obtain ⟨m, rfl⟩ : ∃ m, k = m + 1 := ⟨k - 1, by omega⟩
      obtain ⟨x, hx⟩ : ∃ x, L[m]? = some x := ⟨L[m], List.getElem?_eq_getElem (by omega)⟩
      obtain ⟨g, o, c, he, hc⟩ := Hreads.out.elem Turn.cells_length hx (by decide)
      simp only [Value.slice.injEq, true_and] at he
      obtain ⟨rfl, rfl⟩ := he
      obtain ⟨xd, xb⟩ := x
      have x0 : w.cell? ⟨g, o + m * 2, none⟩ = some (.int .i64 xd) := hc 0 (by decide)
      clear hc hnone
      have Hx := Lib.hid hx; clear hx
      by_cases hd : d < xd
      · go_wp2
        go_step3
        go_wp2
        refine jump_goto 
          ⟨⟨rfl, m, _, _, _, _, _, _, _, _, _, _, _, _, _, _, _, _, _, _, _, _, _, _, _, _, _, rfl, by omega, fun j t hjm ht => by
          rcases Nat.lt_or_ge j (m + 1) with h | h
          · obtain rfl : j = m := by omega
            rw [Hx.out] at ht; cases ht; exact hd
          · exact Hj.out j t h ht⟩, by simp [slotM, intOf]⟩
      · have Hd := Lib.hid hd
        go_wp2
        refine jump_ret ?_
        go_ret
        exact ⟨m + 1, by go_num, ⟨hk, Hj.out, fun j t hjm ht => by
          rcases Nat.lt_or_ge j m with h | h
          · have := Hris.out.get h ht Hx.out; have := Hd.out; simp only at *; omega
          · obtain rfl : j = m := by omega
            rw [Hx.out] at ht; cases ht; have := Hd.out; simp only; omega⟩, rfl⟩
set_option maxRecDepth 100000 in
set_option maxHeartbeats 400000 in
theorem serOn_nil (d : Int) (w : World) : Calls Try.prog 11 #[.pointer none, .int .i64 d] w fun e w' => e = .returned (.int .i64 0) ∧ w = w' := by
  go_enter Try.func11, Try.ntmps11
  go_wp2
  go_ret
  exact ⟨rfl, rfl⟩
set_option maxRecDepth 100000 in
set_option maxHeartbeats 400000 in
theorem serOn_any (d : Int) (b : Nat) (v : Value) (f : Int) (L : List Turn) (w : World) (h : SerAt w b v f L) (hl : L.length ≤ 100000) : Calls Try.prog 11 #[(.pointer (some ⟨b, 0, none⟩)), .int .i64 d] w fun e w' => e = .returned (.int .i64 (onT L d)) ∧ w = w' := by
  have c1 := cell_of_cells h.blk 1
  obtain ⟨ad, cap, rfl, hcap, hnone⟩ := ownsRow_shape h.row
  have hreads := Reads.of_owns h.row
  have H := Lib.hid h; clear h; have Hreads := Lib.hid hreads; clear hreads; have Hnone := Lib.hid hnone; clear hnone
  go_enter Try.func11, Try.ntmps11
  go_wp2_with fail
  refine (serPlace_any _ _ _ _ _ _ H.out hl).mono ?_
  rintro e w1 ⟨k, rfl, hp, rfl⟩
  have ho := onT_parts hp
  rcases k with _ | m
  · have Ho := Lib.hid ho; clear ho; have Hp := Lib.hid hp; clear hp
    go_wp2
    go_ret
    exact ⟨by rw [Ho.out]; rfl, rfl⟩
  · have hm := hp.1
    obtain ⟨x, hx⟩ : ∃ x, L[m]? = some x := ⟨L[m], List.getElem?_eq_getElem (by omega)⟩
    obtain ⟨g, o, c, he, hc⟩ := Hreads.out.elem Turn.cells_length hx (by decide)
    simp only [Value.slice.injEq, true_and] at he
    obtain ⟨rfl, rfl⟩ := he
    obtain ⟨xd, xb⟩ := x
    have x1 : w.cell? ⟨g, o + m * 2 + 1, none⟩ = some (.int .i64 xb) := hc 1 (by decide)
    have hob : onT L d = xb := by rw [ho, if_neg (by omega), Nat.add_sub_cancel, hx]; rfl
    clear hc ho
    have Hx := Lib.hid hx; clear hx; have Hp := Lib.hid hp; clear hp; have Hob := Lib.hid hob; clear hob
    go_wp2
    go_ret
    exact ⟨by rw [Hob.out]; rfl, rfl⟩
end Go.Proofs.Ytddmmnkhblcpiaa
