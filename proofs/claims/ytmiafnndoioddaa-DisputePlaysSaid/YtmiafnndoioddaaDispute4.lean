/- The walks of the dispute layer, more: Fork; the reference's book. -/
import Derived.Test.YtmiafnndoioddaaDispute3
import Derived.Deep.RegionHeld3
namespace Go.Proofs.Ytmiafnndoioddaa
open Go.RowKit
set_option maxRecDepth 100000 in
set_option maxHeartbeats 800000 in
theorem dispFork_any (L : List Disp) (v : Value) (b : Nat) (w : World) (h : BookAt w b v L) : Calls Try.prog 15 #[(.pointer (some ⟨b, 0, none⟩))] w
    fun e w' => ∃ b' v', e = .returned (.pointer (some ⟨b', 0, none⟩)) ∧ BookAt w' b' v' L ∧ Keeps (fun _ => False) w w' ∧ (∀ k, Foot b' v' k → w.heap.size ≤ k) := by
  have c0 : w.cell? ⟨b, 0, none⟩ = some v := cell_of_cells h.blk 0
  have c1 : w.cell? ⟨b, 1, none⟩ = some (.int .i64 (heldOf L)) := cell_of_cells h.blk 1
  obtain ⟨ad, cap, rfl, _, _⟩ := ownsRow_shape h.row
  have hbl := lt_of_block h.blk
  have H := Lib.hid h; clear h
  go_enter Try.func15, Try.ntmps15
  go_wp2
  go_region_held3 (fun w' => w'.cell? ⟨b, 0, none⟩ = some (.slice ad L.length cap) ∧ w'.cell? ⟨b, 1, none⟩ = some (.int .i64 (heldOf L))) (first | go_keep) (first | (go_at_call 19; refine (cloneDisp_any _ _ _ _ (Reads.of_owns (H.out.keeps (Keeps.drew (S := fun _ => False) _) (by simp)).row) (Disp.one L) (by have := H.out.ok.1; omega)).mono ?_; rintro e w1 ⟨v1, rfl, hown, hk, hf⟩; obtain ⟨ad1, cap1, rfl, _, _⟩ := ownsRow_shape hown; have c0 := hk.cell (p := ⟨b, 0, none⟩) hbl (by simp); have c1 := hk.cell (p := ⟨b, 1, none⟩) hbl (by simp); have Hend := Lib.hid (And.intro hown (And.intro hk hf)); clear hown hk hf))
  go_wp2
  go_ret
  refine ⟨_, _, rfl, ⟨heap_alloc_new w1 _, Hend.out.1.alloc _, H.out.ok⟩, ((Keeps.drew w).trans (Hend.out.2.1.mono (by simp))).trans (Keeps.alloc _ _), ?_⟩
  rintro k (rfl | hk)
  · have := Hend.out.2.1.size; simpa using this
  · exact Hend.out.2.2 k hk
/-- The reference's book in memory. -/
structure RefAt (w : World) (b : Nat) (v : Value) (L : List Disp) : Prop where
  blk : w.heap[b]? = some (.cells #[v] 46 (0, 0))
  row : w.ownsRow 0 32 5 v L.length (L.flatMap Disp.cells)
  ok : BookOk L
theorem RefAt.lt {w : World} {b : Nat} {v : Value} {L : List Disp} (h : RefAt w b v L) : ∀ k, Foot b v k → k < w.heap.size := by
  rintro k (rfl | hk)
  · exact lt_of_block h.blk
  · exact (h.row.lt k hk).2
theorem RefAt.keeps {S : Nat → Prop} {w w' : World} {b : Nat} {v : Value} {L : List Disp} (h : RefAt w b v L) (hk : Keeps S w w') (hS : ∀ k, Foot b v k → ¬ S k) : RefAt w' b v L :=
  ⟨by rw [hk.block b (lt_of_block h.blk) (hS b (.inl rfl))]; exact h.blk, hk.row h.row fun k hk => hS k (.inr hk), h.ok⟩
def RefPost (w : World) (b : Nat) (v : Value) (L' : List Disp) (r : Value) (e : Ending) (w' : World) : Prop :=
  e = .returned r ∧ ∃ v', RefAt w' b v' L' ∧ Keeps (Foot b v) w w' ∧ ∀ k, Foot b v' k → Foot b v k ∨ w.heap.size ≤ k
theorem heldOf_take {L : List Disp} {k : Nat} {x : Disp} (hx : L[k]? = some x) : heldOf (L.take (k + 1)) = heldOf (L.take k) + (if x.state = 1 then x.amount else 0) := by
  rw [List.take_add_one, hx]; exact heldOf_append _ _
theorem heldOf_take_le {L : List Disp} (h : BookOk L) (k : Nat) : 0 ≤ heldOf (L.take k) ∧ heldOf (L.take k) ≤ heldOf L := by
  have hm : ∀ d ∈ L.take k, 1 ≤ d.amount ∧ d.amount ≤ 1000000000000000 := fun d hd => h.2.2 d (List.mem_of_mem_take hd)
  have hd : ∀ d ∈ L.drop k, 1 ≤ d.amount ∧ d.amount ≤ 1000000000000000 := fun d hd => h.2.2 d (List.mem_of_mem_drop hd)
  have happ : ∀ A B : List Disp, heldOf (A ++ B) = heldOf A + heldOf B := fun A B => by
    induction A with
    | nil => simp [heldOf]
    | cons a l ih => simp only [List.cons_append, heldOf, ih]; omega
  refine ⟨heldOf_nonneg _ hm, ?_⟩
  have e := happ (L.take k) (L.drop k)
  rw [List.take_append_drop] at e
  have := heldOf_nonneg _ hd
  omega
set_option maxRecDepth 100000 in
set_option maxHeartbeats 800000 in
theorem rdispHeld_any (L : List Disp) (v : Value) (b : Nat) (w : World) (h : RefAt w b v L) : Calls Try.prog 18 #[(.pointer (some ⟨b, 0, none⟩))] w fun e w' => e = .returned (.int .i64 (heldOf L)) ∧ w = w' := by
  have c0 : w.cell? ⟨b, 0, none⟩ = some v := cell_of_cells h.blk 0
  obtain ⟨ad, cap, rfl, hcap, _⟩ := ownsRow_shape h.row
  have hl := h.ok.1
  have H := Lib.hid h; clear h
  go_enter Try.func18, Try.ntmps18
  go_wp2
  go_loop [3, 4] (fun s i => ∃ k : Nat, k ≤ L.length ∧ s = .int .i64 (heldOf (L.take k)) ∧ i = .int .i64 k) (fun _ i => L.length - (intOf i).toNat)
  case atStart => exact ⟨0, Nat.zero_le _, rfl, rfl⟩
  case round =>
    obtain ⟨k, hk, rfl, rfl⟩ := hrel
    by_cases hlt : k < L.length
    · obtain ⟨x, hx⟩ : ∃ x, L[k]? = some x := ⟨L[k], List.getElem?_eq_getElem hlt⟩
      obtain ⟨g, o, c, he, hc⟩ := (Reads.of_owns H.out.row).elem Disp.cells_length hx (by decide)
      simp only [Value.slice.injEq, true_and] at he
      obtain ⟨rfl, rfl⟩ := he
      obtain ⟨xr, xt, xd, xa, xs⟩ := x
      have x3 : w.cell? ⟨g, o + k * 5 + 3, none⟩ = some (.int .i64 xa) := hc 3 (by decide)
      have x4 : w.cell? ⟨g, o + k * 5 + 4, none⟩ = some (.int .i64 xs) := hc 4 (by decide)
      clear hc
      have ht := heldOf_take hx
      have hb := heldOf_take_le H.out.ok k
      have hb' := heldOf_take_le H.out.ok (k + 1)
      have hm := H.out.ok.2.1
      have ha := H.out.ok.2.2 _ (List.mem_of_getElem? hx)
      obtain ⟨s, hs⟩ : ∃ s, s = heldOf (L.take k) := ⟨_, rfl⟩
      rw [← hs] at ht hb ⊢
      have hb1 := hb.1
      have hb2 : s ≤ 1000000000000000 := by omega
      have ha1 := ha.1
      have ha2 := ha.2
      simp only at ha1 ha2
      clear hb hb' ha hm
      have Ht := Lib.hid ht; clear ht; have Hx := Lib.hid hx; clear hx; have Hs := Lib.hid hs; clear hs
      by_cases hst : xs = 1
      · subst hst
        go_wp2
        go_round
        case rel => exact ⟨k + 1, by omega, by rw [Ht.out]; simp, by go_num⟩
        case measure => simp [intOf]; omega
      · have hst' : (xs == 1) = false := beq_eq_false_iff_ne.2 hst
        have Hst := Lib.hid hst; clear hst
        go_wp2
        go_round
        case rel => exact ⟨k + 1, by omega, by rw [Ht.out]; simp [Hst.out], by go_num⟩
        case measure => simp [intOf]; omega
    · have hkl : k = L.length := by omega
      subst hkl
      go_wp2
      go_ret
      exact ⟨by simp, rfl⟩
end Go.Proofs.Ytmiafnndoioddaa
