/- The reference: Set, behind all. -/
import Derived.Test.YtddmmnkhblcpiaaSeries7
namespace Go.Proofs.Ytddmmnkhblcpiaa
open Go.RowKit
set_option maxRecDepth 100000 in
set_option maxHeartbeats 3200000 in
theorem rsetA1 (a : Int) (b : Nat) (f : Int) (L : List Turn) (w : World) (g : Nat) (d : Int) (h : RSerAt w b (.slice (some ⟨g, 0, none⟩) L.length L.length) f L) (hl : L.length ≤ 99999) (h1 : f ≤ d) (h2 : d ≤ f + 40000) (a1 : 0 ≤ a) (a2 : a ≤ 1000000000000000) 
    (hlt : ∀ j t, j < L.length → L[j]? = some t → t.day < d) (hcons : setT L d a = L.take L.length ++ ⟨d, a⟩ :: L.drop L.length) (hkn : L.length ≤ L.length) (hen : L.length ≤ L.length) (hnc : L.length ≤ L.length) :
    Calls Try.prog 12 #[(.pointer (some ⟨b, 0, none⟩)), .int .i64 d, .int .i64 a] w (RSerPost w b (.slice (some ⟨g, 0, none⟩) L.length L.length) f (setT L d a) (.int .i64 0)) := by
  obtain ⟨i0, hi, hz0, hz1, hz2⟩ := info_parts info_tMark
  have hfb := h.fb
  have c0 := cell_of_cells h.blk 0
  have c1 := cell_of_cells h.blk 1
  have hreads := Reads.of_owns h.row
  have hone := Turn.one L
  have hsok := setT_ok h.ok h1 h2 a1 a2
  have hbl : b < w.heap.size := lt_of_block h.blk
  have hlen : L.length + 1 + 0 = (setT L d a).length := by rw [hcons]; simp only [List.length_append, List.length_take, List.length_cons, List.length_drop]; omega
  have hend := fun (n3 c3 : Nat) (w3 : World) (ad3 : Option Addr) (hn : n3 = (setT L d a).length) (ho : w3.ownsRow 0 60 2 (.slice ad3 n3 c3) n3 ((L.flatMap Turn.cells).take (L.length * 2) ++ [.int .i64 d, .int .i64 a] ++ (L.flatMap Turn.cells).drop (L.length * 2))) hk hf =>
    rset_end h hcons hsok hn ho hk hf
  have hsuf : Reads w 2 (.slice (some ⟨g, 0, none⟩) 0 0) 0 ((L.flatMap Turn.cells).drop (L.length * 2)) := by
    rw [List.drop_eq_nil_of_le (by rw [flat_length Turn.cells_length]; omega)]; exact Reads.none_of (by simp)
  skip
  have H := Lib.hid h; clear h; have Hreads := Lib.hid hreads; clear hreads; have Hone := Lib.hid hone; clear hone; have Hsok := Lib.hid hsok; clear hsok; have Hend := Lib.hid hend; clear hend; have Hcons := Lib.hid hcons; clear hcons; have Hlen := Lib.hid hlen; clear hlen; have Hsuf := Lib.hid hsuf; clear hsuf; have Hlt := Lib.hid hlt; clear hlt
  go_enter Try.func12, Try.ntmps12
  go_wp2
  go_loop [7] (fun i => ∃ k : Nat, k ≤ L.length ∧ i = .int .i64 k) (fun i => L.length - (intOf i).toNat)
  case atStart => exact ⟨0, Nat.zero_le _, rfl⟩
  case round =>
    obtain ⟨k, hk, rfl⟩ := hrel
    by_cases hkk : k < L.length
    · obtain ⟨x, hx⟩ := get_some (L := L) (k := k) (by omega)
      obtain ⟨g', o, c, he, hc⟩ := Hreads.out.elem Turn.cells_length hx (by decide)
      simp only [Value.slice.injEq, true_and, Option.some.injEq, Addr.mk.injEq, and_true] at he
      obtain ⟨⟨rfl, rfl⟩, rfl⟩ := he
      have hd := Hlt.out k x hkk hx
      obtain ⟨yd, yb⟩ := x
      have y0 : w.cell? ⟨g, k * 2, none⟩ = some (.int .i64 yd) := by have := hc 0 (by decide); rwa [Nat.zero_add, Nat.add_zero] at this
      simp only at hd
      have hkl : k < L.length := by omega
      clear hc
      have Hx := Lib.hid hx; clear hx
      go_wp2
      go_round
      case rel => exact ⟨k + 1, by omega, by go_num⟩
      case measure => simp [intOf]; omega
    · obtain rfl : L.length = k := by omega
      clear hkk hk
      skip
      have hw1 : IntKind.i64.wrap ((L.length : Int) + 1) = (L.length : Int) + 1 := IntWalk.i64_in _ (by omega)
      have hw2 : (0 : Int) ≤ (L.length : Int) + 1 := by omega
      have hw3 : ((L.length : Int) + 1).toNat = L.length + 1 := by omega
      have hk0 : (0 : Int) ≤ (L.length : Int) := by omega
      have hkn2 : (L.length : Int) ≤ (L.length : Int) := by omega
      have hkc : (L.length : Int) ≤ (L.length : Int) := by omega
      go_wp2
      go_region_law (first
        | (refine step_append_row rfl (.const (.slice none 0 0)) (.tmp 79) 41 rfl 0 60 i0 _ 2 16 Try.underlying41 hi hz0 hz1 hz2 rfl (by decide) (.slice none 0 0) 0 [] rfl (World.ownsRow_nil _ _ _ _) (.slice (some ⟨g, 0, none⟩) L.length L.length) L.length _ rfl (by first | exact (Hreads.out.pre L.length hkn).drew | exact ((Hreads.out.pre L.length hkn).alloc _).drew) (fun u hu => Hone.out u (List.mem_of_mem_take hu)) (by unfold maxLen; omega) (by omega) (by omega) ?_; intro v1 w1 hown1 hk1 hf1; have hF1 : Fresh w w1 v1 := (by first | exact ((Fresh.nil w).keep (Keeps.drew _)).app hk1 hf1 | exact ((Fresh.nil w).keep ((Keeps.alloc _ _).trans (Keeps.drew _))).app hk1 hf1); (try (have Hbx := Lib.hid (box_old (w := World.drew (World.alloc w _)) (heap_alloc_new w _) hk1 (by simp [Value.ownBlock])))); simp only [Nat.zero_add, List.nil_append] at hown1; obtain ⟨ad1, cap1, rfl, hcap1, _⟩ := ownsRow_shape hown1; have c1 := hF1.cell (p := ⟨b, 1, none⟩) hbl; have hbl1 := Nat.lt_of_lt_of_le hbl hF1.1.size; have Hown1 := Lib.hid hown1; have HF1 := Lib.hid hF1; clear hown1 hk1 hf1 hF1)
        | (refine step_append_row rfl (.tmp 80) (.tmp 84) 41 rfl 0 60 i0 _ 2 16 Try.underlying41 hi hz0 hz1 hz2 rfl (by decide) (.slice ad1 L.length cap1) L.length _ rfl (by first | exact Hown1.out.alloc _ | exact Hown1.out) (.slice (some ⟨_, 0, none⟩) 1 1) 1 [.int .i64 d, .int .i64 a] rfl (by first | exact Reads.lit _ _ _ _ _ rfl | exact Reads.blk Hbx.out rfl) (by simp [Value.oneCell']) (by unfold maxLen; omega) (by omega) (by omega) ?_; intro v2 w2 hown2 hk2 hf2; have hF2 : Fresh w w2 v2 := (by first | exact (HF1.out.keep (Keeps.alloc _ _)).app hk2 hf2 | exact HF1.out.app hk2 hf2); obtain ⟨ad2, cap2, rfl, hcap2, _⟩ := ownsRow_shape hown2; have c1 := hF2.cell (p := ⟨b, 1, none⟩) hbl; have hbl2 := Nat.lt_of_lt_of_le hbl hF2.1.size; have Hown2 := Lib.hid hown2; have HF2 := Lib.hid hF2; clear hown2 hk2 hf2 hF2)
        | (refine step_append_row rfl (.tmp 85) (.tmp 91) 41 rfl 0 60 i0 _ 2 16 Try.underlying41 hi hz0 hz1 hz2 rfl (by decide) (.slice ad2 (L.length + 1) cap2) (L.length + 1) _ rfl Hown2.out (.slice (some ⟨g, 0, none⟩) 0 0) 0 _ rfl (Hsuf.out.keeps HF2.out.1 (by simp)) (fun u hu => Hone.out u (List.mem_of_mem_drop hu)) (by unfold maxLen; omega) (by omega) (by omega) ?_; intro v3 w3 hown3 hk3 hf3; have hF3 := HF2.out.app hk3 hf3; obtain ⟨n3, hn3, hown3⟩ : ∃ n3, n3 = L.length + 1 + 0 ∧ w3.ownsRow 0 60 2 v3 n3 _ := ⟨_, rfl, hown3⟩; have hN3 := Lib.hid (hn3.trans Hlen.out); clear hn3; obtain ⟨ad3, cap3, rfl, hcap3, _⟩ := ownsRow_shape hown3; obtain ⟨c1, e1, hend⟩ := Hend.out _ _ _ _ hN3.out hown3 hF3.1 hF3.2; have Hfin := Lib.hid hend; clear hown3 hk3 hf3 hF3 hend))
      all_goals
        go_wp2
        go_ret
        exact Hfin.out
set_option maxRecDepth 100000 in
set_option maxHeartbeats 3200000 in
theorem rsetA2 (a : Int) (b : Nat) (f : Int) (L : List Turn) (w : World) (g cap : Nat) (d : Int) (h : RSerAt w b (.slice (some ⟨g, 0, none⟩) L.length cap) f L) (hl : L.length ≤ 99999) (h1 : f ≤ d) (h2 : d ≤ f + 40000) (a1 : 0 ≤ a) (a2 : a ≤ 1000000000000000) (hcne : ¬ cap = L.length)
    (hlt : ∀ j t, j < L.length → L[j]? = some t → t.day < d) (hcons : setT L d a = L.take L.length ++ ⟨d, a⟩ :: L.drop L.length) (hkn : L.length ≤ L.length) (hen : L.length ≤ L.length) (hnc : L.length ≤ cap) :
    Calls Try.prog 12 #[(.pointer (some ⟨b, 0, none⟩)), .int .i64 d, .int .i64 a] w (RSerPost w b (.slice (some ⟨g, 0, none⟩) L.length cap) f (setT L d a) (.int .i64 0)) := by
  obtain ⟨i0, hi, hz0, hz1, hz2⟩ := info_parts info_tMark
  have hfb := h.fb
  have c0 := cell_of_cells h.blk 0
  have c1 := cell_of_cells h.blk 1
  have hreads := Reads.of_owns h.row
  have hone := Turn.one L
  have hsok := setT_ok h.ok h1 h2 a1 a2
  have hbl : b < w.heap.size := lt_of_block h.blk
  have hlen : L.length + 1 + 0 = (setT L d a).length := by rw [hcons]; simp only [List.length_append, List.length_take, List.length_cons, List.length_drop]; omega
  have hend := fun (n3 c3 : Nat) (w3 : World) (ad3 : Option Addr) (hn : n3 = (setT L d a).length) (ho : w3.ownsRow 0 60 2 (.slice ad3 n3 c3) n3 ((L.flatMap Turn.cells).take (L.length * 2) ++ [.int .i64 d, .int .i64 a] ++ (L.flatMap Turn.cells).drop (L.length * 2))) hk hf =>
    rset_end h hcons hsok hn ho hk hf
  have hsuf : Reads w 2 (.slice (some ⟨g, L.length * 2, none⟩) 0 (cap - L.length)) 0 ((L.flatMap Turn.cells).drop (L.length * 2)) := by
    rw [List.drop_eq_nil_of_le (by rw [flat_length Turn.cells_length]; omega)]; exact Reads.none_of (by simp)
  skip
  have H := Lib.hid h; clear h; have Hreads := Lib.hid hreads; clear hreads; have Hone := Lib.hid hone; clear hone; have Hsok := Lib.hid hsok; clear hsok; have Hend := Lib.hid hend; clear hend; have Hcons := Lib.hid hcons; clear hcons; have Hlen := Lib.hid hlen; clear hlen; have Hsuf := Lib.hid hsuf; clear hsuf; have Hlt := Lib.hid hlt; clear hlt
  go_enter Try.func12, Try.ntmps12
  go_wp2
  go_loop [7] (fun i => ∃ k : Nat, k ≤ L.length ∧ i = .int .i64 k) (fun i => L.length - (intOf i).toNat)
  case atStart => exact ⟨0, Nat.zero_le _, rfl⟩
  case round =>
    obtain ⟨k, hk, rfl⟩ := hrel
    by_cases hkk : k < L.length
    · obtain ⟨x, hx⟩ := get_some (L := L) (k := k) (by omega)
      obtain ⟨g', o, c, he, hc⟩ := Hreads.out.elem Turn.cells_length hx (by decide)
      simp only [Value.slice.injEq, true_and, Option.some.injEq, Addr.mk.injEq, and_true] at he
      obtain ⟨⟨rfl, rfl⟩, rfl⟩ := he
      have hd := Hlt.out k x hkk hx
      obtain ⟨yd, yb⟩ := x
      have y0 : w.cell? ⟨g, k * 2, none⟩ = some (.int .i64 yd) := by have := hc 0 (by decide); rwa [Nat.zero_add, Nat.add_zero] at this
      simp only at hd
      have hkl : k < L.length := by omega
      clear hc
      have Hx := Lib.hid hx; clear hx
      go_wp2
      go_round
      case rel => exact ⟨k + 1, by omega, by go_num⟩
      case measure => simp [intOf]; omega
    · obtain rfl : L.length = k := by omega
      clear hkk hk
      skip
      have hw1 : IntKind.i64.wrap ((L.length : Int) + 1) = (L.length : Int) + 1 := IntWalk.i64_in _ (by omega)
      have hw2 : (0 : Int) ≤ (L.length : Int) + 1 := by omega
      have hw3 : ((L.length : Int) + 1).toNat = L.length + 1 := by omega
      have hk0 : (0 : Int) ≤ (L.length : Int) := by omega
      have hkn2 : (L.length : Int) ≤ (L.length : Int) := by omega
      have hkc : (L.length : Int) ≤ (cap : Int) := by omega
      go_wp2
      go_region_law (first
        | (refine step_append_row rfl (.const (.slice none 0 0)) (.tmp 79) 41 rfl 0 60 i0 _ 2 16 Try.underlying41 hi hz0 hz1 hz2 rfl (by decide) (.slice none 0 0) 0 [] rfl (World.ownsRow_nil _ _ _ _) (.slice (some ⟨g, 0, none⟩) L.length cap) L.length _ rfl (by first | exact (Hreads.out.pre L.length hkn).drew | exact ((Hreads.out.pre L.length hkn).alloc _).drew) (fun u hu => Hone.out u (List.mem_of_mem_take hu)) (by unfold maxLen; omega) (by omega) (by omega) ?_; intro v1 w1 hown1 hk1 hf1; have hF1 : Fresh w w1 v1 := (by first | exact ((Fresh.nil w).keep (Keeps.drew _)).app hk1 hf1 | exact ((Fresh.nil w).keep ((Keeps.alloc _ _).trans (Keeps.drew _))).app hk1 hf1); (try (have Hbx := Lib.hid (box_old (w := World.drew (World.alloc w _)) (heap_alloc_new w _) hk1 (by simp [Value.ownBlock])))); simp only [Nat.zero_add, List.nil_append] at hown1; obtain ⟨ad1, cap1, rfl, hcap1, _⟩ := ownsRow_shape hown1; have c1 := hF1.cell (p := ⟨b, 1, none⟩) hbl; have hbl1 := Nat.lt_of_lt_of_le hbl hF1.1.size; have Hown1 := Lib.hid hown1; have HF1 := Lib.hid hF1; clear hown1 hk1 hf1 hF1)
        | (refine step_append_row rfl (.tmp 80) (.tmp 84) 41 rfl 0 60 i0 _ 2 16 Try.underlying41 hi hz0 hz1 hz2 rfl (by decide) (.slice ad1 L.length cap1) L.length _ rfl (by first | exact Hown1.out.alloc _ | exact Hown1.out) (.slice (some ⟨_, 0, none⟩) 1 1) 1 [.int .i64 d, .int .i64 a] rfl (by first | exact Reads.lit _ _ _ _ _ rfl | exact Reads.blk Hbx.out rfl) (by simp [Value.oneCell']) (by unfold maxLen; omega) (by omega) (by omega) ?_; intro v2 w2 hown2 hk2 hf2; have hF2 : Fresh w w2 v2 := (by first | exact (HF1.out.keep (Keeps.alloc _ _)).app hk2 hf2 | exact HF1.out.app hk2 hf2); obtain ⟨ad2, cap2, rfl, hcap2, _⟩ := ownsRow_shape hown2; have c1 := hF2.cell (p := ⟨b, 1, none⟩) hbl; have hbl2 := Nat.lt_of_lt_of_le hbl hF2.1.size; have Hown2 := Lib.hid hown2; have HF2 := Lib.hid hF2; clear hown2 hk2 hf2 hF2)
        | (refine step_append_row rfl (.tmp 85) (.tmp 91) 41 rfl 0 60 i0 _ 2 16 Try.underlying41 hi hz0 hz1 hz2 rfl (by decide) (.slice ad2 (L.length + 1) cap2) (L.length + 1) _ rfl Hown2.out (.slice (some ⟨g, L.length * 2, none⟩) 0 (cap - L.length)) 0 _ rfl (Hsuf.out.keeps HF2.out.1 (by simp)) (fun u hu => Hone.out u (List.mem_of_mem_drop hu)) (by unfold maxLen; omega) (by omega) (by omega) ?_; intro v3 w3 hown3 hk3 hf3; have hF3 := HF2.out.app hk3 hf3; obtain ⟨n3, hn3, hown3⟩ : ∃ n3, n3 = L.length + 1 + 0 ∧ w3.ownsRow 0 60 2 v3 n3 _ := ⟨_, rfl, hown3⟩; have hN3 := Lib.hid (hn3.trans Hlen.out); clear hn3; obtain ⟨ad3, cap3, rfl, hcap3, _⟩ := ownsRow_shape hown3; obtain ⟨c1, e1, hend⟩ := Hend.out _ _ _ _ hN3.out hown3 hF3.1 hF3.2; have Hfin := Lib.hid hend; clear hown3 hk3 hf3 hF3 hend))
      all_goals
        go_wp2
        go_ret
        exact Hfin.out
end Go.Proofs.Ytddmmnkhblcpiaa
