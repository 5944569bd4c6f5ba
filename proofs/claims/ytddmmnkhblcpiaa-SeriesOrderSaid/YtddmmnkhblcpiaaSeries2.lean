/- The walks of the series layer: Set. -/
import Derived.Test.YtddmmnkhblcpiaaSeries
namespace Go.Proofs.Ytddmmnkhblcpiaa
open Go.RowKit
def setErr (f d v : Int) : Int := if d < f ∨ f + 40000 < d then 10 else if v < 0 ∨ 1000000000000000 < v then 5 else 0
def serSetL (f : Int) (L : List Turn) (d v : Int) : List Turn := if setErr f d v = 0 then setT L d v else L
def SerPost (w : World) (b : Nat) (v : Value) (f : Int) (L' : List Turn) (r : Value) (e : Ending) (w' : World) : Prop :=
  e = .returned r ∧ ∃ v', SerAt w' b v' f L' ∧ Keeps (Foot b v) w w' ∧ ∀ k, Foot b v' k → Foot b v k ∨ w.heap.size ≤ k
set_option maxRecDepth 100000 in
set_option maxHeartbeats 400000 in
theorem serSet_nil (d a : Int) (w : World) : Calls Try.prog 9 #[.pointer none, .int .i64 d, .int .i64 a] w fun e w' => e = .returned (.int .i64 2) ∧ w = w' := by
  go_enter Try.func9, Try.ntmps9
  go_wp2
  go_ret
  exact ⟨rfl, rfl⟩
theorem uSub (d f : Int) (h : f ≤ d) (h1 : -9223372036854775808 ≤ f) (h2 : d ≤ 9223372036854775807) : IntKind.u64.wrap (IntKind.u64.wrap d - IntKind.u64.wrap f) = d - f := by
  simp [IntKind.wrap, IntKind.signed, IntKind.bits]
  omega
set_option maxRecDepth 100000 in
set_option maxHeartbeats 400000 in
theorem serSet_10 (d a : Int) (b : Nat) (v : Value) (f : Int) (w : World) (hf : -1099511627776 ≤ f ∧ f ≤ 1099511627776) (hd : d ≤ 9223372036854775807) (hb : w.heap[b]? = some (.cells #[.int .i64 f, v] 52 (0, 0))) (h : d < f ∨ (f ≤ d ∧ 40000 < d - f)) :
    Calls Try.prog 9 #[(.pointer (some ⟨b, 0, none⟩)), .int .i64 d, .int .i64 a] w fun e w' => e = .returned (.int .i64 10) ∧ w = w' := by
  have c0 := cell_of_cells hb 0
  rcases h with h | ⟨h, h'⟩
  · have Hb := Lib.hid hb; clear hb
    go_enter Try.func9, Try.ntmps9
    go_wp2
    go_ret
    exact ⟨rfl, rfl⟩
  · have hs := uSub d f h (by omega) hd
    have Hb := Lib.hid hb; clear hb
    go_enter Try.func9, Try.ntmps9
    go_wp2
    go_ret
    exact ⟨rfl, rfl⟩
set_option maxRecDepth 100000 in
set_option maxHeartbeats 400000 in
theorem serSet_5 (d a : Int) (b : Nat) (v : Value) (f : Int) (w : World) (hf : -1099511627776 ≤ f ∧ f ≤ 1099511627776) (hd : d ≤ 9223372036854775807) (hb : w.heap[b]? = some (.cells #[.int .i64 f, v] 52 (0, 0))) (h : f ≤ d) (h' : d - f ≤ 40000) (ha : a < 0 ∨ (0 ≤ a ∧ 1000000000000000 < a)) :
    Calls Try.prog 9 #[(.pointer (some ⟨b, 0, none⟩)), .int .i64 d, .int .i64 a] w fun e w' => e = .returned (.int .i64 5) ∧ w = w' := by
  have c0 := cell_of_cells hb 0
  have hs := uSub d f h (by omega) hd
  have Hb := Lib.hid hb; clear hb
  rcases ha with ha | ⟨ha, ha'⟩
  · go_enter Try.func9, Try.ntmps9
    go_wp2
    go_ret
    exact ⟨rfl, rfl⟩
  · go_enter Try.func9, Try.ntmps9
    go_wp2
    go_ret
    exact ⟨rfl, rfl⟩
theorem flat_take {α : Type} {f : α → List Value} {size : Nat} (hf : ∀ x, (f x).length = size) (L : List α) (k : Nat) : (L.flatMap f).take (k * size) = (L.take k).flatMap f := by
  induction L generalizing k with
  | nil => simp
  | cons a l ih =>
    cases k with
    | zero => simp
    | succ k =>
      rw [List.flatMap_cons, List.take_succ_cons, List.flatMap_cons, ← ih, Nat.succ_mul, Nat.add_comm, ← hf a, List.take_length_add_append]
theorem flat_drop {α : Type} {f : α → List Value} {size : Nat} (hf : ∀ x, (f x).length = size) (L : List α) (k : Nat) : (L.flatMap f).drop (k * size) = (L.drop k).flatMap f := by
  induction L generalizing k with
  | nil => simp
  | cons a l ih =>
    cases k with
    | zero => simp
    | succ k =>
      rw [List.flatMap_cons, List.drop_succ_cons, ← ih, Nat.succ_mul, Nat.add_comm, ← hf a, List.drop_length_add_append]
set_option maxRecDepth 100000 in
set_option maxHeartbeats 800000 in
theorem serSet_at (d a : Int) (b : Nat) (v : Value) (f : Int) (L : List Turn) (w : World) (h : SerAt w b v f L) (hl : L.length ≤ 99999) (hd : d ≤ 9223372036854775807) (h1 : f ≤ d) (h2 : d - f ≤ 40000) (a1 : 0 ≤ a) (a2 : a ≤ 1000000000000000)
    (m : Nat) (bal : Int) (hx : L[m]? = some ⟨d, bal⟩) :
    Calls Try.prog 9 #[(.pointer (some ⟨b, 0, none⟩)), .int .i64 d, .int .i64 a] w (SerPost w b v f (setT L d a) (.int .i64 0)) := by
  have hm := lt_of_get hx
  have c0 := cell_of_cells h.blk 0
  have c1 := cell_of_cells h.blk 1
  obtain ⟨g, cap, rfl, hgl⟩ := owns_some h.row (by omega)
  have hs := uSub d f h1 (by have := h.fb; omega) hd
  have x0 : w.cell? ⟨g, m * 2, none⟩ = some (.int .i64 d) := owns_elem Turn.cells_length h.row hx 0 (by decide)
  have x1 : w.cell? ⟨g, m * 2 + 1, none⟩ = some (.int .i64 bal) := owns_elem Turn.cells_length h.row hx 1 (by decide)
  have y1 : w.frozen? ⟨g, m * 2 + 1, none⟩ = false := h.row.frozenAt _
  have hset := setT_at h.ok.1 hx a
  have hok := setT_ok h.ok h1 (by omega) a1 a2
  have hne : ¬ b = g := fun e => ownsRow_ne h.row h.blk (by decide) (by rw [e]; rfl)
  have hend : SerPost w b (.slice (some ⟨g, 0, none⟩) L.length cap) f (setT L d a) (.int .i64 0) (.returned (.int .i64 0)) (w.setCell ⟨g, m * 2 + 1, none⟩ (.int .i64 a)) := by
    have r1 := owns_store Turn.cells_length h.row hx 1 (by decide) (y := ⟨d, a⟩) (u := .int .i64 a) rfl
    simp only at hset
    refine ⟨rfl, _, ⟨?_, ?_, hok, h.fb⟩, Keeps.setCell _ _ _ (.inr rfl), fun k hk => .inl hk⟩
    · rw [heap_setCell_other _ ⟨g, m * 2 + 1, none⟩ b _ hne]; exact h.blk
    · rw [hset]; simpa using r1
  have hplace : ∀ k, Parts L d k → k = m + 1 := fun k hp => by
    obtain ⟨p1, p2, p3⟩ := hp
    rcases Nat.lt_or_ge m k with h' | h'
    · rcases Nat.lt_or_ge (m + 1) k with h'' | h''
      · obtain ⟨y, hy⟩ : ∃ y, L[m + 1]? = some y := ⟨L[m + 1], List.getElem?_eq_getElem (by omega)⟩
        have e1 := h.ok.1.get (Nat.lt_succ_self m) hx hy
        have e2 := p3 (m + 1) y h'' hy
        simp only at e1; omega
      · omega
    · have := p2 m _ h' hx; simp only at this; omega
  have hfd : ¬ d < f := by omega
  have H := Lib.hid h; clear h; have Hx := Lib.hid hx; clear hx; have Hset := Lib.hid hset; clear hset; have Hok := Lib.hid hok; clear hok; have Hend := Lib.hid hend; clear hend; have Hplace := Lib.hid hplace; clear hplace
  go_enter Try.func9, Try.ntmps9
  go_wp2_with fail
  refine (serPlace_any _ _ _ _ _ _ H.out (by omega)).mono ?_
  rintro e w1 ⟨k, rfl, hp, rfl⟩
  have hk := Hplace.out k hp
  subst hk
  clear hp
  go_wp2
  go_ret
  exact Hend.out
theorem ser_stored {w w1 : World} {b : Nat} {v : Value} {f : Int} {L L' : List Turn} {ad' : Option Addr} {n' cap' : Nat} (h : SerAt w b v f L) (hn : n' = L'.length) (hown : w1.ownsRow 0 55 2 (.slice ad' n' cap') n' (L'.flatMap Turn.cells)) (hk : Keeps (fun k => v.ownBlock = some k) w w1)
    (hf : (Value.slice ad' n' cap').ownBlock = v.ownBlock ∨ ∃ g, (Value.slice ad' n' cap').ownBlock = some g ∧ w.heap.size ≤ g) (hok : SerOk f L') :
    w1.cell? ⟨b, 1, none⟩ = some v ∧ w1.frozen? ⟨b, 1, none⟩ = false ∧ SerPost w b v f L' (.int .i64 0) (.returned (.int .i64 0)) (w1.setCell ⟨b, 1, none⟩ (.slice ad' n' cap')) := by
  subst hn
  have hb1 : w1.heap[b]? = some (.cells #[.int .i64 f, v] 52 (0, 0)) := by rw [hk.block b (lt_of_block h.blk) (ownsRow_ne h.row h.blk (by decide))]; exact h.blk
  have hne : (Value.slice ad' L'.length cap').ownBlock ≠ some b := ownsRow_ne hown hb1 (by decide)
  refine ⟨cell_of_cells hb1 1, free_of_cells hb1 1, rfl, _, ⟨heap_setCell_same _ _ 1 _ _ _ hb1, ownsRow_setCell_other hown hne _, hok, h.fb⟩, (hk.mono fun k _ h => .inr h).trans (Keeps.setCell _ _ _ (.inl (.inl rfl))), ?_⟩
  rintro k (rfl | hk')
  · exact .inl (.inl rfl)
  · rcases hf with hf | ⟨g, hg, hh⟩
    · exact .inl (.inr (by rw [← hf]; exact hk'))
    · rw [hg] at hk'; simp only [Option.some.injEq] at hk'; right; omega
set_option maxRecDepth 100000 in
set_option maxHeartbeats 800000 in
theorem serSet_new (d a : Int) (b : Nat) (v : Value) (f : Int) (L : List Turn) (w : World) (h : SerAt w b v f L) (hl : L.length ≤ 99999) (hd : d ≤ 9223372036854775807) (h1 : f ≤ d) (h2 : d - f ≤ 40000) (a1 : 0 ≤ a) (a2 : a ≤ 1000000000000000)
    (hno : ∀ t ∈ L, t.day ≠ d) :
    Calls Try.prog 9 #[(.pointer (some ⟨b, 0, none⟩)), .int .i64 d, .int .i64 a] w (SerPost w b v f (setT L d a) (.int .i64 0)) := by
  have c0 := cell_of_cells h.blk 0
  have c1 := cell_of_cells h.blk 1
  obtain ⟨ad, cap, rfl, hcap, hnone⟩ := ownsRow_shape h.row
  have hbl := lt_of_block h.blk
  have hreads := Reads.of_owns h.row
  have hs := uSub d f h1 (by have := h.fb; omega) hd
  have hok := setT_ok h.ok h1 (by omega) a1 a2
  have hnew : ∀ k, Parts L d k → (L.flatMap Turn.cells).take (k * 2) ++ (#[Value.int .i64 d, Value.int .i64 a] : Array Value).toList ++ (L.flatMap Turn.cells).drop (k * 2) = (setT L d a).flatMap Turn.cells ∧ L.length + 1 = (setT L d a).length := fun k hp => by
    rw [setT_new hp hno, flat_take Turn.cells_length, flat_drop Turn.cells_length]
    constructor
    · simp [List.flatMap_append, Turn.cells]
    · simp; have := hp.1; omega
  have hfd : ¬ d < f := by omega
  have hone := Turn.one L
  have H := Lib.hid h; clear h; have Hreads := Lib.hid hreads; clear hreads; have Hok := Lib.hid hok; clear hok; have Hnew := Lib.hid hnew; clear hnew; have Hno := Lib.hid hno; clear hno; have Hnone := Lib.hid hnone; clear hnone; have Hone := Lib.hid hone; clear hone
  go_enter Try.func9, Try.ntmps9
  go_wp2_with fail
  refine (serPlace_any _ _ _ _ _ _ H.out (by omega)).mono ?_
  rintro e w1 ⟨k, rfl, hp, rfl⟩
  have hkl := hp.1
  have Hp := Lib.hid hp
  clear hp
  have go : ∀ (e' : Ending) (w' : World), True := fun _ _ => trivial
  clear go
  rcases k with _ | m
  · go_wp2_with (go_at_call 20; refine (insTurn_any w _ 0 L.length _ H.out.row (by omega) #[.int .i64 d, .int .i64 a] rfl (by simp [Value.oneCell']) Hone.out (by omega)).mono ?_; rintro e w2 ⟨v2, rfl, ho2, hk2, hf2⟩; rw [(Hnew.out _ Hp.out).1] at ho2; obtain ⟨ad2, cap2, rfl, _, hnone2⟩ := ownsRow_shape ho2; obtain ⟨d1, e1, hend⟩ := ser_stored H.out (Hnew.out _ Hp.out).2 ho2 hk2 hf2 Hok.out; have Hend := Lib.hid hend; clear ho2 hk2 hf2 hend hnone2)
    go_ret
    exact Hend.out
  · obtain ⟨x, hx⟩ : ∃ x, L[m]? = some x := ⟨L[m], List.getElem?_eq_getElem (by omega)⟩
    obtain ⟨g, o, c, he, hc⟩ := Hreads.out.elem Turn.cells_length hx (by decide)
    simp only [Value.slice.injEq, true_and] at he
    obtain ⟨rfl, rfl⟩ := he
    obtain ⟨xd, xb⟩ := x
    have x0 : w.cell? ⟨g, o + m * 2, none⟩ = some (.int .i64 xd) := hc 0 (by decide)
    have hxd : (xd == d) = false := beq_eq_false_iff_ne.2 (Hno.out _ (List.mem_of_getElem? hx))
    clear hc
    have Hx := Lib.hid hx; clear hx
    go_wp2_with (go_at_call 20; refine (insTurn_any w _ (m + 1) L.length _ H.out.row (by omega) #[.int .i64 d, .int .i64 a] rfl (by simp [Value.oneCell']) Hone.out (by omega)).mono ?_; rintro e w2 ⟨v2, rfl, ho2, hk2, hf2⟩; rw [(Hnew.out _ Hp.out).1] at ho2; obtain ⟨ad2, cap2, rfl, _, hnone2⟩ := ownsRow_shape ho2; obtain ⟨d1, e1, hend⟩ := ser_stored H.out (Hnew.out _ Hp.out).2 ho2 hk2 hf2 Hok.out; have Hend := Lib.hid hend; clear ho2 hk2 hf2 hend hnone2)
    go_ret
    exact Hend.out
theorem serSet_any (d a : Int) (b : Nat) (v : Value) (f : Int) (L : List Turn) (w : World) (h : SerAt w b v f L) (hl : L.length ≤ 99999) (hd : d ≤ 9223372036854775807) :
    Calls Try.prog 9 #[(.pointer (some ⟨b, 0, none⟩)), .int .i64 d, .int .i64 a] w (SerPost w b v f (serSetL f L d a) (.int .i64 (setErr f d a))) := by
  have stay : ∀ n : Int, n ≠ 0 → setErr f d a = n → ∀ e w', e = .returned (.int .i64 n) ∧ w = w' → SerPost w b v f (serSetL f L d a) (.int .i64 (setErr f d a)) e w' := by
    rintro n hn he e w' ⟨rfl, rfl⟩
    have h1 : serSetL f L d a = L := by unfold serSetL; rw [if_neg (by omega)]
    rw [h1, he]
    exact ⟨rfl, v, h, Keeps.refl _ _, fun k hk => .inl hk⟩
  by_cases h1 : d < f ∨ f + 40000 < d
  · exact (serSet_10 d a b v f w h.fb hd h.blk (by omega)).mono (stay 10 (by decide) (by unfold setErr; rw [if_pos h1]))
  by_cases h2 : a < 0 ∨ 1000000000000000 < a
  · exact (serSet_5 d a b v f w h.fb hd h.blk (by omega) (by omega) (by omega)).mono (stay 5 (by decide) (by unfold setErr; rw [if_neg h1, if_pos h2]))
  have he : setErr f d a = 0 := by unfold setErr; rw [if_neg h1, if_neg h2]
  have hL : serSetL f L d a = setT L d a := by unfold serSetL; rw [if_pos he]
  rw [he, hL]
  by_cases hin : ∃ t ∈ L, t.day = d
  · obtain ⟨t, ht, rfl⟩ := hin
    obtain ⟨m, hm⟩ := List.getElem?_of_mem ht
    exact serSet_at t.day a b v f L w h hl hd (by omega) (by omega) (by omega) (by omega) m t.balance hm
  · exact serSet_new d a b v f L w h hl hd (by omega) (by omega) (by omega) (by omega) fun t ht e => hin ⟨t, ht, e⟩
end Go.Proofs.Ytddmmnkhblcpiaa
