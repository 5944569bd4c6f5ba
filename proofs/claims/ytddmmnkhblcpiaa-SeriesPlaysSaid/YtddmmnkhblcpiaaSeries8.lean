/- The reference's series: Set, whole; Changes. -/
import Derived.Test.YtddmmnkhblcpiaaSeries7a
import Derived.Test.YtddmmnkhblcpiaaSeries7b
import Derived.Test.YtddmmnkhblcpiaaSeries7c
namespace Go.Proofs.Ytddmmnkhblcpiaa
open Go.RowKit
set_option maxRecDepth 100000 in
set_option maxHeartbeats 3200000 in
theorem rsetA0 (d a : Int) (b : Nat) (f : Int) (w : World) (h : RSerAt w b (.slice none 0 0) f []) (h1 : f ≤ d) (h2 : d ≤ f + 40000) (a1 : 0 ≤ a) (a2 : a ≤ 1000000000000000) :
    Calls Try.prog 12 #[(.pointer (some ⟨b, 0, none⟩)), .int .i64 d, .int .i64 a] w (RSerPost w b (.slice none 0 0) f (setT [] d a) (.int .i64 0)) := by
  obtain ⟨i0, hi, hz0, hz1, hz2⟩ := info_parts info_tMark
  have hfb := h.fb
  have c0 := cell_of_cells h.blk 0
  have c1 := cell_of_cells h.blk 1
  have hsok := setT_ok h.ok h1 h2 a1 a2
  have hbl : b < w.heap.size := lt_of_block h.blk
  have hend := fun (n3 c3 : Nat) (w3 : World) (ad3 : Option Addr) (hn : n3 = (setT [] d a).length) (ho : w3.ownsRow 0 60 2 (.slice ad3 n3 c3) n3 ((([] : List Turn).flatMap Turn.cells).take (0 * 2) ++ [.int .i64 d, .int .i64 a] ++ (([] : List Turn).flatMap Turn.cells).drop (0 * 2))) hk hf =>
    rset_end h (k := 0) (e := 0) rfl hsok hn ho hk hf
  have H := Lib.hid h; clear h; have Hsok := Lib.hid hsok; clear hsok; have Hend := Lib.hid hend; clear hend
  go_enter Try.func12, Try.ntmps12
  go_wp2
  go_loop [7] (fun i => i = .int .i64 0) (fun i => 0)
  case atStart => rfl
  case round =>
    obtain rfl := hrel
    go_wp2
    go_region_law (first
      | (refine step_append_row rfl (.const (.slice none 0 0)) (.tmp 79) 41 rfl 0 60 i0 _ 2 16 Try.underlying41 hi hz0 hz1 hz2 rfl (by decide) (.slice none 0 0) 0 [] rfl (World.ownsRow_nil _ _ _ _) (.slice none 0 0) 0 [] rfl (Reads.nil _ _) (by simp) (by unfold maxLen; omega) (by omega) (by omega) ?_; intro v1 w1 hown1 hk1 hf1; have hF1 : Fresh w w1 v1 := (by first | exact ((Fresh.nil w).keep (Keeps.drew _)).app hk1 hf1 | exact ((Fresh.nil w).keep ((Keeps.alloc _ _).trans (Keeps.drew _))).app hk1 hf1); (try (have Hbx := Lib.hid (box_old (w := World.drew (World.alloc w _)) (heap_alloc_new w _) hk1 (by simp [Value.ownBlock])))); simp only [Nat.zero_add, List.nil_append] at hown1; obtain ⟨ad1, cap1, rfl, hcap1, _⟩ := ownsRow_shape hown1; have c1 := hF1.cell (p := ⟨b, 1, none⟩) hbl; have hbl1 := Nat.lt_of_lt_of_le hbl hF1.1.size; have Hown1 := Lib.hid hown1; have HF1 := Lib.hid hF1; clear hown1 hk1 hf1 hF1)
      | (refine step_append_row rfl (.tmp 80) (.tmp 84) 41 rfl 0 60 i0 _ 2 16 Try.underlying41 hi hz0 hz1 hz2 rfl (by decide) (.slice ad1 0 cap1) 0 _ rfl (by first | exact Hown1.out.alloc _ | exact Hown1.out) (.slice (some ⟨_, 0, none⟩) 1 1) 1 [.int .i64 d, .int .i64 a] rfl (by first | exact Reads.lit _ _ _ _ _ rfl | exact Reads.blk Hbx.out rfl) (by simp [Value.oneCell']) (by unfold maxLen; omega) (by omega) (by omega) ?_; intro v2 w2 hown2 hk2 hf2; have hF2 : Fresh w w2 v2 := (by first | exact (HF1.out.keep (Keeps.alloc _ _)).app hk2 hf2 | exact HF1.out.app hk2 hf2); obtain ⟨ad2, cap2, rfl, hcap2, _⟩ := ownsRow_shape hown2; have c1 := hF2.cell (p := ⟨b, 1, none⟩) hbl; have hbl2 := Nat.lt_of_lt_of_le hbl hF2.1.size; have Hown2 := Lib.hid hown2; have HF2 := Lib.hid hF2; clear hown2 hk2 hf2 hF2)
      | (refine step_append_row rfl (.tmp 85) (.tmp 91) 41 rfl 0 60 i0 _ 2 16 Try.underlying41 hi hz0 hz1 hz2 rfl (by decide) (.slice ad2 (0 + 1) cap2) (0 + 1) _ rfl Hown2.out (.slice none 0 0) 0 [] rfl (Reads.nil _ _) (by simp) (by unfold maxLen; omega) (by omega) (by omega) ?_; intro v3 w3 hown3 hk3 hf3; have hF3 := HF2.out.app hk3 hf3; obtain ⟨ad3, cap3, rfl, hcap3, _⟩ := ownsRow_shape hown3; obtain ⟨c1, e1, hend⟩ := Hend.out _ _ _ _ (by rfl) hown3 hF3.1 hF3.2; have Hfin := Lib.hid hend; clear hown3 hk3 hf3 hF3 hend))
    all_goals
      go_wp2
      go_ret
      exact Hfin.out
/-- The place that a day has in a list of rising days. -/
theorem place_of (L : List Turn) (d : Int) : ∃ k, k ≤ L.length ∧ (∀ j t, j < k → L[j]? = some t → t.day < d) ∧ (k < L.length → ∃ t, L[k]? = some t ∧ d ≤ t.day) := by
  induction L with
  | nil => exact ⟨0, Nat.zero_le _, fun j t h => by omega, fun h => by simp at h⟩
  | cons x l ih =>
    by_cases hx : x.day < d
    · obtain ⟨k, h1, h2, h3⟩ := ih
      refine ⟨k + 1, by simp; omega, fun j t hj ht => ?_, fun hk => ?_⟩
      · cases j with
        | zero => simp at ht; subst ht; exact hx
        | succ j => exact h2 j t (by omega) (by simpa using ht)
      · obtain ⟨t, ht, hd⟩ := h3 (by simpa using hk)
        exact ⟨t, by simpa using ht, hd⟩
    · exact ⟨0, Nat.zero_le _, fun j t h => by omega, fun _ => ⟨x, rfl, by omega⟩⟩
theorem rserSet_ok (d a : Int) (b : Nat) (v : Value) (f : Int) (L : List Turn) (w : World) (h : RSerAt w b v f L) (hl : L.length ≤ 99999) (h1 : f ≤ d) (h2 : d ≤ f + 40000) (a1 : 0 ≤ a) (a2 : a ≤ 1000000000000000) :
    Calls Try.prog 12 #[(.pointer (some ⟨b, 0, none⟩)), .int .i64 d, .int .i64 a] w (RSerPost w b v f (setT L d a) (.int .i64 0)) := by
  obtain ⟨k, hk, hlt, hge⟩ := place_of L d
  obtain ⟨ad, cap, rfl, hnc, hnone⟩ := ownsRow_shape h.row
  rcases h.row.2 with ⟨h0, h0'⟩ | ⟨g, cap', cur, h0, _⟩
  · obtain rfl : L = [] := List.eq_nil_of_length_eq_zero h0'
    simp only [Value.slice.injEq] at h0
    obtain ⟨rfl, _, rfl⟩ := h0
    exact rsetA0 d a b f w h h1 h2 a1 a2
  · simp only [Value.slice.injEq, true_and] at h0
    obtain ⟨rfl, rfl⟩ := h0
    by_cases hkn : k < L.length
    · obtain ⟨t, ht, htd⟩ := hge hkn
      have hcons : ∀ e, (t.day = d ∧ e = k + 1) ∨ (e = k ∧ t.day ≠ d) → setT L d a = L.take k ++ ⟨d, a⟩ :: L.drop e := fun e he =>
        setT_split h.ok.1 hk hlt (fun t' ht' => by rw [ht] at ht'; cases ht'; exact htd) e (by
          rcases he with ⟨h3, rfl⟩ | ⟨rfl, h3⟩
          · exact .inl ⟨t, ht, h3, rfl⟩
          · exact .inr ⟨rfl, fun t' ht' => by rw [ht] at ht'; cases ht'; exact h3⟩)
      obtain ⟨xd, xb⟩ := t
      by_cases hd : xd = d
      · subst hd
        by_cases hc : cap = k + 1
        · subst hc
          exact rsetB1 a b f L w g k xd xb h hl h1 h2 a1 a2 ht hlt (hcons _ (.inl ⟨rfl, rfl⟩)) hk (by omega) hnc
        · exact rsetB2 a b f L w g k cap xd xb h hl h1 h2 a1 a2 ht hc hlt (hcons _ (.inl ⟨rfl, rfl⟩)) hk (by omega) hnc
      · exact rsetC a b f L w g k cap d xd xb h hl h1 h2 a1 a2 ht (by simp only at htd; omega) (beq_eq_false_iff_ne.2 hd) (by omega) hlt (hcons _ (.inr ⟨rfl, hd⟩)) hk (by omega) hnc
    · obtain rfl : k = L.length := by omega
      have hcons : setT L d a = L.take L.length ++ ⟨d, a⟩ :: L.drop L.length := setT_split h.ok.1 hk hlt (fun t ht => by have := lt_of_get ht; omega) _ (.inr ⟨rfl, fun t ht => by have := lt_of_get ht; omega⟩)
      by_cases hc : cap = L.length
      · subst hc
        exact rsetA1 a b f L w g d h hl h1 h2 a1 a2 hlt hcons hk (by omega) hnc
      · exact rsetA2 a b f L w g cap d h hl h1 h2 a1 a2 hc hlt hcons hk (by omega) hnc
theorem rserSet_any (d a : Int) (b : Nat) (v : Value) (f : Int) (L : List Turn) (w : World) (h : RSerAt w b v f L) (hl : L.length ≤ 99999) :
    Calls Try.prog 12 #[(.pointer (some ⟨b, 0, none⟩)), .int .i64 d, .int .i64 a] w (RSerPost w b v f (serSetL f L d a) (.int .i64 (setErr f d a))) := by
  have stay : ∀ n : Int, n ≠ 0 → setErr f d a = n → ∀ e w', e = .returned (.int .i64 n) ∧ w = w' → RSerPost w b v f (serSetL f L d a) (.int .i64 (setErr f d a)) e w' := by
    rintro n hn he e w' ⟨rfl, rfl⟩
    have h1 : serSetL f L d a = L := by unfold serSetL; rw [if_neg (by omega)]
    rw [h1, he]
    exact ⟨rfl, v, h, Keeps.refl _ _, fun k hk => .inl hk⟩
  by_cases h1 : d < f ∨ f + 40000 < d
  · exact (rserSet_10 d a b v f w h.fb h.blk (by omega)).mono (stay 10 (by decide) (by unfold setErr; rw [if_pos h1]))
  by_cases h2 : a < 0 ∨ 1000000000000000 < a
  · exact (rserSet_5 d a b v f w h.fb h.blk (by omega) (by omega) (by omega)).mono (stay 5 (by decide) (by unfold setErr; rw [if_neg h1, if_pos h2]))
  have he : setErr f d a = 0 := by unfold setErr; rw [if_neg h1, if_neg h2]
  have hL : serSetL f L d a = setT L d a := by unfold serSetL; rw [if_pos he]
  rw [he, hL]
  exact rserSet_ok d a b v f L w h hl (by omega) (by omega) (by omega) (by omega)
end Go.Proofs.Ytddmmnkhblcpiaa
