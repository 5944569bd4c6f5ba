/- The walks of the dispute layer, more: the reference's Open and End. -/
import Derived.Test.YtmiafnndoioddaaDispute4
namespace Go.Proofs.Ytmiafnndoioddaa
open Go.RowKit
set_option maxRecDepth 100000 in
set_option maxHeartbeats 800000 in
theorem rdispOpen_err (t d a n : Int) (L : List Disp) (v : Value) (b : Nat) (w : World) (h : RefAt w b v L) (hn : dOpenErr L t a = n) (h0 : n ≠ 0) :
    Calls Try.prog 16 #[(.pointer (some ⟨b, 0, none⟩)), .int .i64 t, .int .i64 d, .int .i64 a] w fun e w' => e = .returned (.tuple #[.int .i64 0, .int .i64 n]) ∧ w = w' := by
  obtain ⟨hl, hh, hd⟩ := h.ok
  have hp := heldOf_nonneg L hd
  unfold dOpenErr at hn
  obtain ⟨s, hs⟩ : ∃ s, s = heldOf L := ⟨_, rfl⟩
  rw [← hs] at hn hh hp
  have c0 : w.cell? ⟨b, 0, none⟩ = some v := cell_of_cells h.blk 0
  obtain ⟨ad, cap, rfl, hcap, _⟩ := ownsRow_shape h.row
  have held : ∀ W : World, W = w → Calls Try.prog 18 #[(.pointer (some ⟨b, 0, none⟩))] W fun e w' => e = .returned (.int .i64 s) ∧ W = w' := fun W hW => by rw [hW, hs]; exact rdispHeld_any L _ b w h
  have Held := Lib.hid held
  have H := Lib.hid h; clear h; have Hs := Lib.hid hs; clear hs; have Hd := Lib.hid hd; clear hd
  clear held
  split at hn
  · subst hn
    rename_i ht
    rcases (show t < 1 ∨ (1 ≤ t ∧ 8 < t) from by omega) with ht | ⟨h2, ht⟩ <;>
    · go_enter Try.func16, Try.ntmps16
      go_wp2
      go_ret2
      exact ⟨rfl, rfl⟩
  rename_i ht
  have t1 : 1 ≤ t := by omega
  have t2 : t ≤ 8 := by omega
  clear ht
  split at hn
  · subst hn
    rename_i ht
    rcases (show a < 1 ∨ (1 ≤ a ∧ 1000000000000000 < a) from by omega) with ht | ⟨h2, ht⟩ <;>
    · go_enter Try.func16, Try.ntmps16
      go_wp2
      go_ret2
      exact ⟨rfl, rfl⟩
  rename_i ha
  have a1 : 1 ≤ a := by omega
  have a2 : a ≤ 1000000000000000 := by omega
  clear ha
  split at hn
  · subst hn
    go_enter Try.func16, Try.ntmps16
    go_wp2_with (go_at_call 18; refine (Held.out _ rfl).mono ?_; rintro e w1 ⟨rfl, rfl⟩)
    go_ret2
    exact ⟨rfl, rfl⟩
  split at hn
  · subst hn
    go_enter Try.func16, Try.ntmps16
    go_wp2_with (go_at_call 18; refine (Held.out _ rfl).mono ?_; rintro e w1 ⟨rfl, rfl⟩)
    go_ret2
    exact ⟨rfl, rfl⟩
  · exact absurd hn.symm h0
theorem rOpen_end {w w1 w2 : World} {b n' cap' : Nat} {v v1 : Value} {ad' : Option Addr} {zs : List Value} {o : Obj} (hb : w.heap[b]? = some (.cells #[v] 46 (0, 0)))
    (hk1 : Keeps (fun k => (Value.slice none 0 0).ownBlock = some k) w w1) (hf1 : v1.ownBlock = (Value.slice none 0 0).ownBlock ∨ ∃ g, v1.ownBlock = some g ∧ w.heap.size ≤ g)
    (hown2 : w2.ownsRow 0 32 5 (.slice ad' n' cap') n' zs) (hk2 : Keeps (fun k => v1.ownBlock = some k) (w1.alloc o) w2) (hf2 : (Value.slice ad' n' cap').ownBlock = v1.ownBlock ∨ ∃ g, (Value.slice ad' n' cap').ownBlock = some g ∧ (w1.alloc o).heap.size ≤ g) :
    w2.heap[b]? = some (.cells #[v] 46 (0, 0)) ∧ w2.cell? ⟨b, 0, none⟩ = some v ∧ w2.frozen? ⟨b, 0, none⟩ = false ∧
      ((w2.setCell ⟨b, 0, none⟩ (.slice ad' n' cap')).heap[b]? = some (.cells #[.slice ad' n' cap'] 46 (0, 0)) ∧ (w2.setCell ⟨b, 0, none⟩ (.slice ad' n' cap')).ownsRow 0 32 5 (.slice ad' n' cap') n' zs ∧
        Keeps (Foot b v) w (w2.setCell ⟨b, 0, none⟩ (.slice ad' n' cap')) ∧ ∀ k, Foot b (.slice ad' n' cap') k → Foot b v k ∨ w.heap.size ≤ k) := by
  have hs := hk1.size
  have hbl := lt_of_block hb
  have nf : ∀ k, v1.ownBlock = some k → w.heap.size ≤ k := fun k hk => by
    rcases hf1 with h | ⟨g, hg, h⟩
    · rw [h] at hk; simp [Value.ownBlock] at hk
    · rw [hg] at hk; simp only [Option.some.injEq] at hk; omega
  have k2 : Keeps (fun _ => False) w w2 := ((hk1.mono (fun k _ h => by simp [Value.ownBlock] at h)).trans (Keeps.alloc _ _)).trans (hk2.mono fun k _ h => .inr (nf k h))
  have hb2 : w2.heap[b]? = some (.cells #[v] 46 (0, 0)) := by rw [k2.block b hbl (by simp)]; exact hb
  have hne2 : (Value.slice ad' n' cap').ownBlock ≠ some b := ownsRow_ne hown2 hb2 (by decide)
  refine ⟨hb2, cell_of_cells hb2 0, free_of_cells hb2 0, heap_setCell_same _ _ _ _ _ _ hb2, ownsRow_setCell_other hown2 hne2 _, (k2.mono (by simp)).trans (Keeps.setCell _ _ _ (.inl (.inl rfl))), ?_⟩
  rintro k (rfl | hk)
  · exact .inl (.inl rfl)
  · right
    rcases hf2 with h | ⟨g, hg, h⟩
    · exact nf k (by rw [← h]; exact hk)
    · rw [hg] at hk; simp only [Option.some.injEq] at hk; simp only [World.size_alloc] at h; omega
set_option maxRecDepth 100000 in
set_option maxHeartbeats 800000 in
theorem rdispOpen_ok (t d a s : Int) (n : Nat) (v : Value) (xs : List Value) (b : Nat) (w : World) (t1 : 1 ≤ t) (t2 : t ≤ 8) (a1 : 1 ≤ a) (a2 : a ≤ 1000000000000000) (s0 : 0 ≤ s) (s1 : s + a ≤ 1000000000000000) (ln : n < 2000)
    (hb : w.heap[b]? = some (.cells #[v] 46 (0, 0))) (hown : w.ownsRow 0 32 5 v n xs) (h1 : ∀ u ∈ xs, u.oneCell' = true)
    (held : ∀ W : World, W = w → Calls Try.prog 18 #[(.pointer (some ⟨b, 0, none⟩))] W fun e w' => e = .returned (.int .i64 s) ∧ W = w') :
    Calls Try.prog 16 #[(.pointer (some ⟨b, 0, none⟩)), .int .i64 t, .int .i64 d, .int .i64 a] w fun e w' => e = .returned (.tuple #[.int .i64 (n + 1), .int .i64 0]) ∧
      ∃ v', w'.heap[b]? = some (.cells #[v'] 46 (0, 0)) ∧ w'.ownsRow 0 32 5 v' (n + 1) (xs ++ Disp.cells ⟨n + 1, t, d, a, 1⟩) ∧ Keeps (Foot b v) w w' ∧ ∀ k, Foot b v' k → Foot b v k ∨ w.heap.size ≤ k := by
  have c0 : w.cell? ⟨b, 0, none⟩ = some v := cell_of_cells hb 0
  obtain ⟨i0, hi, hz0, hz1, hz2⟩ := info_parts info_tDisp
  obtain ⟨ad, cap, rfl, hncap, _⟩ := ownsRow_shape hown
  have hbl := lt_of_block hb
  have Hown := Lib.hid hown; clear hown; have Hb := Lib.hid hb; clear hb; have H1 := Lib.hid h1; clear h1; have Held := Lib.hid held; clear held
  go_enter Try.func16, Try.ntmps16
  go_wp2_with (first
    | (go_at_call 18; refine (Held.out _ rfl).mono ?_; rintro e w0 ⟨rfl, rfl⟩)
    | (at_builtin; refine wpList_append_row rfl (.const (.slice none 0 0)) (.tmp 48) 40 rfl 0 32 i0 _ 5 40 Try.underlying40 hi hz0 hz1 hz2 rfl (by decide) _ 0 [] rfl (World.ownsRow_nil _ _ _ _) _ n xs rfl (Reads.of_owns Hown.out) H1.out (by unfold maxLen; omega) (by omega) (by omega) ?_; intro v1 w1 hown1 hk1 hf1; simp only [Nat.zero_add, List.nil_append] at hown1; obtain ⟨ad1, cap1, rfl, hcap1, _⟩ := ownsRow_shape hown1; have Hown1 := Lib.hid hown1; have Hk1 := Lib.hid hk1; have Hf1 := Lib.hid hf1; clear hown1 hk1 hf1)
    | (at_builtin; refine wpList_append_row rfl (.tmp 49) (.tmp 55) 40 rfl 0 32 i0 _ 5 40 Try.underlying40 hi hz0 hz1 hz2 rfl (by decide) _ n xs rfl (Hown1.out.alloc _) _ 1 [.int .i64 (n + 1), .int .i64 t, .int .i64 d, .int .i64 a, .int .i64 1] rfl (Reads.lit _ _ _ _ _ rfl) (by simp [Value.oneCell']) (by unfold maxLen; omega) (by omega) (by omega) ?_; intro v2 w2 hown2 hk2 hf2; obtain ⟨ad2, cap2, rfl, hcap2, _⟩ := ownsRow_shape hown2; obtain ⟨hb2, d0, e0, hend⟩ := rOpen_end Hb.out Hk1.out Hf1.out hown2 hk2 hf2; have Hend := Lib.hid hend; clear hown2 hk2 hf2 hb2 hend))
  go_ret2
  exact ⟨rfl, _, Hend.out⟩
theorem rdispOpen_any (t d a : Int) (L : List Disp) (v : Value) (b : Nat) (w : World) (h : RefAt w b v L) :
    Calls Try.prog 16 #[(.pointer (some ⟨b, 0, none⟩)), .int .i64 t, .int .i64 d, .int .i64 a] w (RefPost w b v (dOpen L t d a) (.tuple #[.int .i64 (dOpenRef L t a), .int .i64 (dOpenErr L t a)])) := by
  obtain ⟨hl, hh, hd⟩ := h.ok
  have hp := heldOf_nonneg L hd
  by_cases h0 : dOpenErr L t a = 0
  · have hok := dOpen_ok h.ok t d a
    have h1 : dOpen L t d a = L ++ [⟨L.length + 1, t, d, a, 1⟩] := by unfold dOpen; rw [if_pos h0]
    have h2 : dOpenRef L t a = L.length + 1 := by unfold dOpenRef; rw [if_pos h0]
    have hc := h0
    unfold dOpenErr at hc
    split at hc; · simp at hc
    split at hc; · simp at hc
    split at hc; · simp at hc
    split at hc; · simp at hc
    refine (rdispOpen_ok t d a (heldOf L) L.length v _ b w (by omega) (by omega) (by omega) (by omega) hp (by omega) (by omega) h.blk h.row (Disp.one L) (fun W hW => by rw [hW]; exact rdispHeld_any L v b w h)).mono ?_
    rintro e w' ⟨rfl, v', hb, hr, hk, hf⟩
    refine ⟨by rw [h0, h2], v', ⟨hb, ?_, hok⟩, hk, hf⟩
    rw [h1]; simpa [List.flatMap_append] using hr
  · have h1 : dOpen L t d a = L := by unfold dOpen; rw [if_neg h0]
    have h2 : dOpenRef L t a = 0 := by unfold dOpenRef; rw [if_neg h0]
    refine (rdispOpen_err t d a _ L v b w h rfl h0).mono ?_
    rintro e w' ⟨rfl, rfl⟩
    rw [h1, h2]
    exact ⟨rfl, v, h, Keeps.refl _ _, fun k hk => .inl hk⟩
set_option maxRecDepth 100000 in
set_option maxHeartbeats 400000 in
theorem rdispEnd_12 (ref : Int) (lost : Bool) (b n cap : Nat) (ad : Option Addr) (w : World) (hn : n ≤ 2000) (hb : w.heap[b]? = some (.cells #[.slice ad n cap] 46 (0, 0))) (hr : ref < 1 ∨ (n : Int) < ref) :
    Calls Try.prog 14 #[(.pointer (some ⟨b, 0, none⟩)), .int .i64 ref, .bool lost] w
    fun e w' => e = .returned (.tuple #[.agg #[.int .i64 0, .int .i64 0, .int .i64 0, .int .i64 0, .int .i64 0], .int .i64 12]) ∧ Keeps (fun _ => False) w w' := by
  have c0 : w.cell? ⟨b, 0, none⟩ = some (.slice ad n cap) := cell_of_cells hb 0
  have hbl : b < w.heap.size := lt_of_block hb
  have Hb := Lib.hid hb; clear hb
  rcases (show ref < 1 ∨ (1 ≤ ref ∧ (n : Int) < ref) from by omega) with ht | ⟨h2, ht⟩ <;>
  · go_enter Try.func14, Try.ntmps14
    go_wp2
    exact bodyPost_ret (v := .tuple #[.agg #[.int .i64 0, .int .i64 0, .int .i64 0, .int .i64 0, .int .i64 0], .int .i64 12]) (by simp [results, Try.results14, go_sem]) rfl ⟨rfl, Keeps.alloc _ _⟩
set_option maxRecDepth 100000 in
set_option maxHeartbeats 400000 in
theorem rdispEnd_13 (k : Nat) (lost : Bool) (b g n cap : Nat) (s : Int) (w : World) (hn : n ≤ 2000) (hk : k < n) (hb : w.heap[b]? = some (.cells #[.slice (some ⟨g, 0, none⟩) n cap] 46 (0, 0)))
    (x4 : w.cell? ⟨g, k * 5 + 4, none⟩ = some (.int .i64 s)) (hs : (s == 1) = false) :
    Calls Try.prog 14 #[(.pointer (some ⟨b, 0, none⟩)), .int .i64 (k + 1), .bool lost] w
    fun e w' => e = .returned (.tuple #[.agg #[.int .i64 0, .int .i64 0, .int .i64 0, .int .i64 0, .int .i64 0], .int .i64 13]) ∧ Keeps (fun _ => False) w w' := by
  have c0 : w.cell? ⟨b, 0, none⟩ = some (.slice (some ⟨g, 0, none⟩) n cap) := cell_of_cells hb 0
  have hbl : b < w.heap.size := lt_of_block hb
  have hgl : g < w.heap.size := cell_lt x4
  have hs1 : ¬ s = 1 := by simpa using hs
  have Hb := Lib.hid hb; clear hb
  go_enter Try.func14, Try.ntmps14
  go_wp2
  exact bodyPost_ret (v := .tuple #[.agg #[.int .i64 0, .int .i64 0, .int .i64 0, .int .i64 0, .int .i64 0], .int .i64 13]) (by simp [results, Try.results14, go_sem]) rfl ⟨rfl, Keeps.alloc _ _⟩
end Go.Proofs.Ytmiafnndoioddaa
