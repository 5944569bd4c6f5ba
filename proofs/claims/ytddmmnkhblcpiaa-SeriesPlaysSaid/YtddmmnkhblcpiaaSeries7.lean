/- The reference's series: Set. -/
import Derived.Test.YtddmmnkhblcpiaaSeries6
namespace Go.Proofs.Ytddmmnkhblcpiaa
open Go.RowKit
theorem info_tMark : (Try.prog.info? 60).map (fun i => (i.zero, i.size, i.bytes)) = some (some (.agg #[.int .i64 0, .int .i64 0]), 2, 16) := by kernel_rfl
set_option maxRecDepth 100000 in
set_option maxHeartbeats 400000 in
theorem rserSet_10 (d a : Int) (b : Nat) (v : Value) (f : Int) (w : World) (hf : -1099511627776 ≤ f ∧ f ≤ 1099511627776) (hb : w.heap[b]? = some (.cells #[.int .i64 f, v] 43 (0, 0))) (h : d < f ∨ (f ≤ d ∧ f + 40000 < d)) :
    Calls Try.prog 12 #[(.pointer (some ⟨b, 0, none⟩)), .int .i64 d, .int .i64 a] w fun e w' => e = .returned (.int .i64 10) ∧ w = w' := by
  have c0 := cell_of_cells hb 0
  have Hb := Lib.hid hb; clear hb
  rcases h with h | ⟨h, h'⟩
  · go_enter Try.func12, Try.ntmps12
    go_wp2
    go_ret
    exact ⟨rfl, rfl⟩
  · go_enter Try.func12, Try.ntmps12
    go_wp2
    go_ret
    exact ⟨rfl, rfl⟩
set_option maxRecDepth 100000 in
set_option maxHeartbeats 400000 in
theorem rserSet_5 (d a : Int) (b : Nat) (v : Value) (f : Int) (w : World) (hf : -1099511627776 ≤ f ∧ f ≤ 1099511627776) (hb : w.heap[b]? = some (.cells #[.int .i64 f, v] 43 (0, 0))) (h : f ≤ d) (h' : d ≤ f + 40000) (ha : a < 0 ∨ (0 ≤ a ∧ 1000000000000000 < a)) :
    Calls Try.prog 12 #[(.pointer (some ⟨b, 0, none⟩)), .int .i64 d, .int .i64 a] w fun e w' => e = .returned (.int .i64 5) ∧ w = w' := by
  have c0 := cell_of_cells hb 0
  have Hb := Lib.hid hb; clear hb
  rcases ha with ha | ⟨ha, ha'⟩
  · go_enter Try.func12, Try.ntmps12
    go_wp2
    go_ret
    exact ⟨rfl, rfl⟩
  · go_enter Try.func12, Try.ntmps12
    go_wp2
    go_ret
    exact ⟨rfl, rfl⟩
/-- Setting a day, by the places that part the list. -/
theorem setT_split {L : List Turn} (h : Rising L) {d v : Int} {k : Nat} (hk : k ≤ L.length) (h1 : ∀ j t, j < k → L[j]? = some t → t.day < d) (h2 : ∀ t, L[k]? = some t → d ≤ t.day) (e : Nat)
    (he : (∃ t, L[k]? = some t ∧ t.day = d ∧ e = k + 1) ∨ (e = k ∧ ∀ t, L[k]? = some t → t.day ≠ d)) : setT L d v = L.take k ++ ⟨d, v⟩ :: L.drop e := by
  rcases he with ⟨t, ht, rfl, rfl⟩ | ⟨rfl, hne⟩
  · rw [setT_at h ht, List.set_eq_take_append_cons_drop, if_pos (lt_of_get ht)]
  · refine setT_new ⟨hk, fun j t hj ht => ?_, fun j t hj ht => Int.le_of_lt (h1 j t hj ht)⟩ fun t ht hd => ?_
    · obtain ⟨x, hx⟩ := get_some (L := L) (k := e) (by have := lt_of_get ht; omega)
      have a1 := h2 x hx
      have a2 := hne x hx
      rcases Nat.lt_or_ge e j with h' | h'
      · have := h.get h' hx ht; omega
      · obtain rfl : j = e := by omega
        rw [hx] at ht; cases ht; omega
    · obtain ⟨j, hj⟩ := List.getElem?_of_mem ht
      rcases Nat.lt_or_ge j e with h' | h'
      · have := h1 j t h' hj; omega
      · obtain ⟨x, hx⟩ := get_some (L := L) (k := e) (by have := lt_of_get hj; omega)
        have a1 := h2 x hx
        have a2 := hne x hx
        rcases Nat.lt_or_ge e j with h'' | h''
        · have := h.get h'' hx hj; omega
        · obtain rfl : j = e := by omega
          rw [hx] at hj; cases hj; omega
/-- What three appends make: a row of its own that reads as the list that was set. -/
theorem rset_end {w w3 : World} {b k e n3 c3 : Nat} {v : Value} {ad3 : Option Addr} {f d a : Int} {L : List Turn} {L' : List Turn} (h : RSerAt w b v f L) (hL' : L' = L.take k ++ ⟨d, a⟩ :: L.drop e) (hok : SerOk f L') (hn : n3 = L'.length)
    (ho : w3.ownsRow 0 60 2 (.slice ad3 n3 c3) n3 ((L.flatMap Turn.cells).take (k * 2) ++ [.int .i64 d, .int .i64 a] ++ (L.flatMap Turn.cells).drop (e * 2))) (hk : Keeps (fun _ => False) w w3) (hf : ∀ g, (Value.slice ad3 n3 c3).ownBlock = some g → w.heap.size ≤ g) :
    w3.cell? ⟨b, 1, none⟩ = some v ∧ w3.frozen? ⟨b, 1, none⟩ = false ∧ RSerPost w b v f L' (.int .i64 0) (.returned (.int .i64 0)) (w3.setCell ⟨b, 1, none⟩ (.slice ad3 n3 c3)) := by
  have hb1 : w3.heap[b]? = some (.cells #[.int .i64 f, v] 43 (0, 0)) := by rw [hk.block b (lt_of_block h.blk) (by simp)]; exact h.blk
  have hbl := lt_of_block h.blk
  have hcs : (L.flatMap Turn.cells).take (k * 2) ++ [.int .i64 d, .int .i64 a] ++ (L.flatMap Turn.cells).drop (e * 2) = L'.flatMap Turn.cells := by
    rw [flat_take Turn.cells_length, flat_drop Turn.cells_length, hL']
    simp [List.flatMap_append, Turn.cells]
  rw [hcs] at ho
  subst hn
  have hne : (Value.slice ad3 L'.length c3).ownBlock ≠ some b := fun hh => by have := hf b hh; omega
  refine ⟨cell_of_cells hb1 1, free_of_cells hb1 1, rfl, _, ⟨heap_setCell_same _ _ 1 _ _ _ hb1, ownsRow_setCell_other ho hne _, hok, h.fb⟩, (hk.mono (by simp)).trans (Keeps.setCell _ _ _ (.inl (.inl rfl))), ?_⟩
  rintro k (rfl | hk')
  · exact .inl (.inl rfl)
  · right; exact hf k hk'
end Go.Proofs.Ytddmmnkhblcpiaa
