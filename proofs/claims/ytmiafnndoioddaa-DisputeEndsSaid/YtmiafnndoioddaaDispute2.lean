/- The walks of the dispute layer, more: End, Get, Held, All, Fork. -/
import Derived.Test.YtmiafnndoioddaaDispute
namespace Go.Proofs.Ytmiafnndoioddaa
open Go.RowKit
def Disp.val (d : Disp) : Value := .agg #[.int .i64 d.ref, .int .i64 d.tranche, .int .i64 d.day, .int .i64 d.amount, .int .i64 d.state]
set_option maxRecDepth 100000 in
set_option maxHeartbeats 400000 in
theorem dispEnd_nil (ref : Int) (lost : Bool) (w : World) : Calls Try.prog 10 #[.pointer none, .int .i64 ref, .bool lost] w
    fun e w' => e = .returned (.tuple #[.agg #[.int .i64 0, .int .i64 0, .int .i64 0, .int .i64 0, .int .i64 0], .int .i64 2]) ∧ Keeps (fun _ => False) w w' := by
  go_enter Try.func10, Try.ntmps10
  go_wp2
  exact bodyPost_ret (v := .tuple #[.agg #[.int .i64 0, .int .i64 0, .int .i64 0, .int .i64 0, .int .i64 0], .int .i64 2]) (by simp [results, Try.results10, go_sem]) rfl ⟨rfl, Keeps.alloc _ _⟩
set_option maxRecDepth 100000 in
set_option maxHeartbeats 400000 in
theorem dispEnd_12 (ref : Int) (lost : Bool) (b n cap : Nat) (ad : Option Addr) (held : Value) (w : World) (hn : n ≤ 2000) (hb : w.heap[b]? = some (.cells #[.slice ad n cap, held] 53 (0, 0))) (hr : ref < 1 ∨ (n : Int) < ref) :
    Calls Try.prog 10 #[(.pointer (some ⟨b, 0, none⟩)), .int .i64 ref, .bool lost] w
    fun e w' => e = .returned (.tuple #[.agg #[.int .i64 0, .int .i64 0, .int .i64 0, .int .i64 0, .int .i64 0], .int .i64 12]) ∧ Keeps (fun _ => False) w w' := by
  have c0 : w.cell? ⟨b, 0, none⟩ = some (.slice ad n cap) := cell_of_cells hb 0
  have hbl : b < w.heap.size := lt_of_block hb
  have Hb := Lib.hid hb; clear hb
  rcases (show ref < 1 ∨ (1 ≤ ref ∧ (n : Int) < ref) from by omega) with ht | ⟨h2, ht⟩ <;>
  · go_enter Try.func10, Try.ntmps10
    go_wp2
    exact bodyPost_ret (v := .tuple #[.agg #[.int .i64 0, .int .i64 0, .int .i64 0, .int .i64 0, .int .i64 0], .int .i64 12]) (by simp [results, Try.results10, go_sem]) rfl ⟨rfl, Keeps.alloc _ _⟩
set_option maxRecDepth 100000 in
set_option maxHeartbeats 400000 in
theorem dispEnd_13 (k : Nat) (lost : Bool) (b g n cap : Nat) (held : Value) (s : Int) (w : World) (hn : n ≤ 2000) (hk : k < n) (hb : w.heap[b]? = some (.cells #[.slice (some ⟨g, 0, none⟩) n cap, held] 53 (0, 0)))
    (x4 : w.cell? ⟨g, k * 5 + 4, none⟩ = some (.int .i64 s)) (hs : (s == 1) = false) :
    Calls Try.prog 10 #[(.pointer (some ⟨b, 0, none⟩)), .int .i64 (k + 1), .bool lost] w
    fun e w' => e = .returned (.tuple #[.agg #[.int .i64 0, .int .i64 0, .int .i64 0, .int .i64 0, .int .i64 0], .int .i64 13]) ∧ Keeps (fun _ => False) w w' := by
  have c0 : w.cell? ⟨b, 0, none⟩ = some (.slice (some ⟨g, 0, none⟩) n cap) := cell_of_cells hb 0
  have hbl : b < w.heap.size := lt_of_block hb
  have hgl : g < w.heap.size := cell_lt x4
  have hs1 : ¬ s = 1 := by simpa using hs
  have Hb := Lib.hid hb; clear hb
  go_enter Try.func10, Try.ntmps10
  go_wp2
  exact bodyPost_ret (v := .tuple #[.agg #[.int .i64 0, .int .i64 0, .int .i64 0, .int .i64 0, .int .i64 0], .int .i64 13]) (by simp [results, Try.results10, go_sem]) rfl ⟨rfl, Keeps.alloc _ _⟩
set_option maxRecDepth 100000 in
set_option maxHeartbeats 800000 in
theorem dispEnd_ok (k : Nat) (lost : Bool) (held : Int) (g cap : Nat) (L : List Disp) (x : Disp) (b : Nat) (w : World) (hx : L[k]? = some x) (hst : x.state = 1)
    (ln : L.length ≤ 2000) (l0 : 0 ≤ held) (l1 : held ≤ 1000000000000000) (a1 : 1 ≤ x.amount) (a2 : x.amount ≤ 1000000000000000)
    (hb : w.heap[b]? = some (.cells #[.slice (some ⟨g, 0, none⟩) L.length cap, .int .i64 held] 53 (0, 0))) (hown : w.ownsRow 0 32 5 (.slice (some ⟨g, 0, none⟩) L.length cap) L.length (L.flatMap Disp.cells)) :
    Calls Try.prog 10 #[(.pointer (some ⟨b, 0, none⟩)), .int .i64 (k + 1), .bool lost] w fun e w' => e = .returned (.tuple #[(x.ended lost).val, .int .i64 0]) ∧
      w'.heap[b]? = some (.cells #[.slice (some ⟨g, 0, none⟩) L.length cap, .int .i64 (held - x.amount)] 53 (0, 0)) ∧ w'.ownsRow 0 32 5 (.slice (some ⟨g, 0, none⟩) L.length cap) L.length ((L.set k (x.ended lost)).flatMap Disp.cells) ∧
      Keeps (Foot b (.slice (some ⟨g, 0, none⟩) L.length cap)) w w' := by
  have hk : k < L.length := by
    rcases Nat.lt_or_ge k L.length with h' | h'
    · exact h'
    · simp [List.getElem?_eq_none h'] at hx
  obtain ⟨xr, xt, xd, xa, xs⟩ := x
  simp only at hst a1 a2
  subst hst
  have c0 : w.cell? ⟨b, 0, none⟩ = some (.slice (some ⟨g, 0, none⟩) L.length cap) := cell_of_cells hb 0
  have c1 : w.cell? ⟨b, 1, none⟩ = some (.int .i64 held) := cell_of_cells hb 1
  have f1 : w.frozen? ⟨b, 1, none⟩ = false := free_of_cells hb 1
  have hbl : b < w.heap.size := lt_of_block hb
  have hgl : g < w.heap.size := (hown.lt g rfl).2
  have hne : ¬ b = g := fun e => ownsRow_ne hown hb (by decide) (by rw [e]; rfl)
  have x0 : w.cell? ⟨g, k * 5, none⟩ = some (.int .i64 xr) := owns_elem Disp.cells_length hown hx 0 (by decide)
  have x1 : w.cell? ⟨g, k * 5 + 1, none⟩ = some (.int .i64 xt) := owns_elem Disp.cells_length hown hx 1 (by decide)
  have x2 : w.cell? ⟨g, k * 5 + 2, none⟩ = some (.int .i64 xd) := owns_elem Disp.cells_length hown hx 2 (by decide)
  have x3 : w.cell? ⟨g, k * 5 + 3, none⟩ = some (.int .i64 xa) := owns_elem Disp.cells_length hown hx 3 (by decide)
  have x4 : w.cell? ⟨g, k * 5 + 4, none⟩ = some (.int .i64 1) := owns_elem Disp.cells_length hown hx 4 (by decide)
  have y4 : w.frozen? ⟨g, k * 5 + 4, none⟩ = false := hown.frozenAt _
  have hend : ∀ (s : Int) (cs : Array Value), ((((w.setCell ⟨g, k * 5 + 4, none⟩ (.int .i64 s)).setCell ⟨b, 1, none⟩ (.int .i64 (held - xa))).alloc (.cells cs 32)).drew).heap[b]? = some (.cells #[.slice (some ⟨g, 0, none⟩) L.length cap, .int .i64 (held - xa)] 53 (0, 0)) ∧
      ((((w.setCell ⟨g, k * 5 + 4, none⟩ (.int .i64 s)).setCell ⟨b, 1, none⟩ (.int .i64 (held - xa))).alloc (.cells cs 32)).drew).ownsRow 0 32 5 (.slice (some ⟨g, 0, none⟩) L.length cap) L.length ((L.set k ⟨xr, xt, xd, xa, s⟩).flatMap Disp.cells) ∧
      Keeps (Foot b (.slice (some ⟨g, 0, none⟩) L.length cap)) w ((((w.setCell ⟨g, k * 5 + 4, none⟩ (.int .i64 s)).setCell ⟨b, 1, none⟩ (.int .i64 (held - xa))).alloc (.cells cs 32)).drew) := by
    intro s cs
    have b1 : (w.setCell ⟨g, k * 5 + 4, none⟩ (.int .i64 s)).heap[b]? = _ := (heap_setCell_other w ⟨g, k * 5 + 4, none⟩ b _ hne).trans hb
    have r1 := owns_store Disp.cells_length hown hx 4 (by decide) (y := ⟨xr, xt, xd, xa, s⟩) (u := .int .i64 s) rfl
    refine ⟨?_, ?_, ?_⟩
    · have b2 := heap_setCell_same _ _ 1 _ _ (.int .i64 (held - xa)) b1
      exact (Below.heap_alloc _ _ _ (lt_of_block b2)).trans b2
    · exact ((ownsRow_setCell_other r1 (fun e => hne (by simp [Value.ownBlock] at e; exact e.symm)) _).alloc _).drew
    · exact (((Keeps.setCell w _ _ (.inr rfl)).trans (Keeps.setCell _ _ _ (.inl (.inl rfl)))).trans (Keeps.alloc _ _)).trans (Keeps.drew _)
  have Hown := Lib.hid hown; clear hown; have Hb := Lib.hid hb; clear hb; have Hx := Lib.hid hx; clear hx; have Hend := Lib.hid hend; clear hend
  cases lost
  · go_enter Try.func10, Try.ntmps10
    go_wp2
    go_region
    go_wp2
    exact bodyPost_ret (v := .tuple #[.agg #[.int .i64 xr, .int .i64 xt, .int .i64 xd, .int .i64 xa, .int .i64 3], .int .i64 0]) (by simp [results, Try.results10, go_sem]) rfl ⟨rfl, Hend.out 3 _⟩
  · go_enter Try.func10, Try.ntmps10
    go_wp2
    go_region
    go_wp2
    rw [setCell_twice]
    exact bodyPost_ret (v := .tuple #[.agg #[.int .i64 xr, .int .i64 xt, .int .i64 xd, .int .i64 xa, .int .i64 2], .int .i64 0]) (by simp [results, Try.results10, go_sem]) rfl ⟨rfl, Hend.out 2 _⟩
theorem dispEnd_any (ref : Int) (lost : Bool) (L : List Disp) (v : Value) (b : Nat) (w : World) (h : BookAt w b v L) :
    Calls Try.prog 10 #[(.pointer (some ⟨b, 0, none⟩)), .int .i64 ref, .bool lost] w (BookPost w b v (dEnd L ref lost) (.tuple #[(dEnded L ref lost).val, .int .i64 (dEndErr L ref)])) := by
  obtain ⟨hl, hh, hd⟩ := h.ok
  have h0 := heldOf_nonneg L hd
  have stay : ∀ n : Int, n ≠ 0 → dEndErr L ref = n → ∀ e w', e = .returned (.tuple #[.agg #[.int .i64 0, .int .i64 0, .int .i64 0, .int .i64 0, .int .i64 0], .int .i64 n]) ∧ Keeps (fun _ => False) w w' →
      BookPost w b v (dEnd L ref lost) (.tuple #[(dEnded L ref lost).val, .int .i64 (dEndErr L ref)]) e w' := by
    rintro n hn he e w' ⟨rfl, hk⟩
    have h1 : dEnd L ref lost = L := by unfold dEnd; rw [if_neg (by omega)]
    have h2 : dEnded L ref lost = Disp.zero := by unfold dEnded; rw [if_neg (by omega)]
    rw [h1, h2, he]
    exact ⟨rfl, v, h.keeps hk (by simp), hk.mono (by simp), fun k hk => .inl hk⟩
  obtain ⟨ad, cap, rfl, _, _⟩ := ownsRow_shape h.row
  by_cases hr : ref < 1 ∨ (L.length : Int) < ref
  · exact (dispEnd_12 ref lost b L.length cap ad _ w hl h.blk hr).mono (stay 12 (by decide) (by unfold dEndErr; rw [if_pos hr]))
  obtain ⟨k, rfl⟩ : ∃ k : Nat, ref = k + 1 := ⟨(ref - 1).toNat, by omega⟩
  have hk : k < L.length := by omega
  obtain ⟨g, cap', hv, hg⟩ := owns_some h.row (by omega)
  injection hv with e1 e2 e3
  subst e1; subst e3
  have hx : L[k]? = some L[k] := List.getElem?_eq_getElem hk
  by_cases hs : L[k].state = 1
  · have hA := dEnd_at hx hs lost
    have hge := heldOf_ge hd hx hs
    have hok := dEnd_ok h.ok (k + 1) lost
    have hxm := hd _ (List.mem_of_getElem? hx)
    refine (dispEnd_ok k lost _ g cap L _ b w hx hs hl h0 hh hxm.1 hxm.2 h.blk h.row).mono ?_
    rintro e w' ⟨rfl, hb, hr, hk⟩
    rw [hA.2.2] at hok
    refine ⟨by rw [hA.1, hA.2.1], _, ⟨?_, ?_, ?_⟩, hk, fun k hk => .inl hk⟩
    · rw [hA.2.2, heldOf_set hx hs (by unfold Disp.ended; cases lost <;> simp)]; exact hb
    · rw [hA.2.2]; simpa using hr
    · rw [hA.2.2]; exact hok
  · have he : dEndErr L (k + 1) = 13 := by
      unfold dEndErr
      rw [if_neg hr, show ((k : Int) + 1 - 1).toNat = k from by omega, hx]
      simp [hs]
    have x4 : w.cell? ⟨g, k * 5 + 4, none⟩ = some (.int .i64 L[k].state) := owns_elem Disp.cells_length h.row hx 4 (by decide)
    exact (dispEnd_13 k lost b g L.length cap _ _ w hl hk h.blk x4 (by simpa using hs)).mono (stay 13 (by decide) he)
set_option maxRecDepth 100000 in
set_option maxHeartbeats 400000 in
theorem dispHeld_nil (w : World) : Calls Try.prog 12 #[.pointer none] w fun e w' => e = .returned (.int .i64 0) ∧ w = w' := by
  go_enter Try.func12, Try.ntmps12
  go_wp2
  go_ret
  exact ⟨rfl, rfl⟩
set_option maxRecDepth 100000 in
set_option maxHeartbeats 400000 in
theorem dispHeld_any (L : List Disp) (v : Value) (b : Nat) (w : World) (h : BookAt w b v L) : Calls Try.prog 12 #[(.pointer (some ⟨b, 0, none⟩))] w fun e w' => e = .returned (.int .i64 (heldOf L)) ∧ w = w' := by
  have c1 : w.cell? ⟨b, 1, none⟩ = some (.int .i64 (heldOf L)) := cell_of_cells h.blk 1
  have H := Lib.hid h; clear h
  go_enter Try.func12, Try.ntmps12
  go_wp2
  go_ret
  exact ⟨rfl, rfl⟩
set_option maxRecDepth 100000 in
set_option maxHeartbeats 400000 in
theorem dispAll_nil (w : World) : Calls Try.prog 13 #[.pointer none] w fun e w' => e = .returned (.slice none 0 0) ∧ w = w' := by
  go_enter Try.func13, Try.ntmps13
  go_wp2
  go_ret
  exact ⟨rfl, rfl⟩
set_option maxRecDepth 100000 in
set_option maxHeartbeats 400000 in
theorem dispAll_any (L : List Disp) (v : Value) (b : Nat) (w : World) (h : BookAt w b v L) : Calls Try.prog 13 #[(.pointer (some ⟨b, 0, none⟩))] w
    fun e w' => ∃ v', e = .returned v' ∧ w'.ownsRow 0 32 5 v' L.length (L.flatMap Disp.cells) ∧ Keeps (fun _ => False) w w' ∧ (∀ k, v'.ownBlock = some k → w.heap.size ≤ k) := by
  have c0 : w.cell? ⟨b, 0, none⟩ = some v := cell_of_cells h.blk 0
  obtain ⟨ad, cap, rfl, _, _⟩ := ownsRow_shape h.row
  have H := Lib.hid h; clear h
  go_enter Try.func13, Try.ntmps13
  go_wp2_with (go_at_call 19; refine (cloneDisp_any w _ _ _ (Reads.of_owns H.out.row) (Disp.one L) (by have := H.out.ok.1; omega)).mono ?_; rintro e w' ⟨v', rfl, hend⟩; have Hend := Lib.hid hend; clear hend)
  go_ret
  exact ⟨_, rfl, Hend.out⟩
set_option maxRecDepth 100000 in
set_option maxHeartbeats 400000 in
theorem dispFork_nil (w : World) : Calls Try.prog 15 #[.pointer none] w fun e w' => e = .returned (.pointer none) ∧ w = w' := by
  go_enter Try.func15, Try.ntmps15
  go_wp2
  go_ret
  exact ⟨rfl, rfl⟩
set_option maxRecDepth 100000 in
set_option maxHeartbeats 400000 in
theorem dispGet_nil (ref : Int) (w : World) : Calls Try.prog 11 #[.pointer none, .int .i64 ref] w
    fun e w' => e = .returned (.tuple #[.agg #[.int .i64 0, .int .i64 0, .int .i64 0, .int .i64 0, .int .i64 0], .bool false]) ∧ Keeps (fun _ => False) w w' := by
  go_enter Try.func11, Try.ntmps11
  go_wp2
  exact bodyPost_ret (v := .tuple #[.agg #[.int .i64 0, .int .i64 0, .int .i64 0, .int .i64 0, .int .i64 0], .bool false]) (by simp [results, Try.results11, go_sem]) rfl ⟨rfl, Keeps.alloc _ _⟩
set_option maxRecDepth 100000 in
set_option maxHeartbeats 400000 in
theorem dispGet_no (ref : Int) (L : List Disp) (v : Value) (b : Nat) (w : World) (h : BookAt w b v L) (hr : ref < 1 ∨ (L.length : Int) < ref) : Calls Try.prog 11 #[(.pointer (some ⟨b, 0, none⟩)), .int .i64 ref] w
    fun e w' => e = .returned (.tuple #[.agg #[.int .i64 0, .int .i64 0, .int .i64 0, .int .i64 0, .int .i64 0], .bool false]) ∧ Keeps (fun _ => False) w w' := by
  have c0 : w.cell? ⟨b, 0, none⟩ = some v := cell_of_cells h.blk 0
  have hbl : b < w.heap.size := lt_of_block h.blk
  obtain ⟨ad, cap, rfl, _, _⟩ := ownsRow_shape h.row
  have hl := h.ok.1
  have H := Lib.hid h; clear h
  rcases (show ref < 1 ∨ (1 ≤ ref ∧ (L.length : Int) < ref) from by omega) with ht | ⟨h2, ht⟩ <;>
  · go_enter Try.func11, Try.ntmps11
    go_wp2
    exact bodyPost_ret (v := .tuple #[.agg #[.int .i64 0, .int .i64 0, .int .i64 0, .int .i64 0, .int .i64 0], .bool false]) (by simp [results, Try.results11, go_sem]) rfl ⟨rfl, Keeps.alloc _ _⟩
set_option maxRecDepth 100000 in
set_option maxHeartbeats 400000 in
theorem dispGet_yes (k : Nat) (x : Disp) (L : List Disp) (v : Value) (b : Nat) (w : World) (h : BookAt w b v L) (hx : L[k]? = some x) : Calls Try.prog 11 #[(.pointer (some ⟨b, 0, none⟩)), .int .i64 (k + 1)] w
    fun e w' => e = .returned (.tuple #[x.val, .bool true]) ∧ Keeps (fun _ => False) w w' := by
  have hk : k < L.length := by
    rcases Nat.lt_or_ge k L.length with h' | h'
    · exact h'
    · simp [List.getElem?_eq_none h'] at hx
  obtain ⟨g, cap, rfl, hgl⟩ := owns_some h.row (by omega)
  obtain ⟨xr, xt, xd, xa, xs⟩ := x
  have c0 : w.cell? ⟨b, 0, none⟩ = some (.slice (some ⟨g, 0, none⟩) L.length cap) := cell_of_cells h.blk 0
  have hbl : b < w.heap.size := lt_of_block h.blk
  have x0 : w.cell? ⟨g, k * 5, none⟩ = some (.int .i64 xr) := owns_elem Disp.cells_length h.row hx 0 (by decide)
  have x1 : w.cell? ⟨g, k * 5 + 1, none⟩ = some (.int .i64 xt) := owns_elem Disp.cells_length h.row hx 1 (by decide)
  have x2 : w.cell? ⟨g, k * 5 + 2, none⟩ = some (.int .i64 xd) := owns_elem Disp.cells_length h.row hx 2 (by decide)
  have x3 : w.cell? ⟨g, k * 5 + 3, none⟩ = some (.int .i64 xa) := owns_elem Disp.cells_length h.row hx 3 (by decide)
  have x4 : w.cell? ⟨g, k * 5 + 4, none⟩ = some (.int .i64 xs) := owns_elem Disp.cells_length h.row hx 4 (by decide)
  have hl := h.ok.1
  have H := Lib.hid h; clear h; have Hx := Lib.hid hx; clear hx
  go_enter Try.func11, Try.ntmps11
  go_wp2
  exact bodyPost_ret (v := .tuple #[.agg #[.int .i64 xr, .int .i64 xt, .int .i64 xd, .int .i64 xa, .int .i64 xs], .bool true]) (by simp [results, Try.results11, go_sem]) rfl ⟨rfl, Keeps.alloc _ _⟩
end Go.Proofs.Ytmiafnndoioddaa
