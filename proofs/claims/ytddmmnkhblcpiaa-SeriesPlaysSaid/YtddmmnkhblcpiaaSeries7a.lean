/- The reference: Set, where the day stands already. -/
import Derived.Test.YtddmmnkhblcpiaaSeries7
namespace Go.Proofs.Ytddmmnkhblcpiaa
open Go.RowKit
set_option maxRecDepth 100000 in
set_option maxHeartbeats 3200000 in
theorem rsetB1 (a : Int) (b : Nat) (f : Int) (L : List Turn) (w : World) (g k0 : Nat) (xd xb : Int) (h : RSerAt w b (.slice (some ⟨g, 0, none⟩) L.length (k0 + 1)) f L) (hl : L.length ≤ 99999) (h1 : f ≤ xd) (h2 : xd ≤ f + 40000) (a1 : 0 ≤ a) (a2 : a ≤ 1000000000000000) (hx : L[k0]? = some ⟨xd, xb⟩)
    (hlt : ∀ j t, j < k0 → L[j]? = some t → t.day < xd) (hcons : setT L xd a = L.take k0 ++ ⟨xd, a⟩ :: L.drop (k0 + 1)) (hkn : k0 ≤ L.length) (hen : (k0 + 1) ≤ L.length) (hnc : L.length ≤ (k0 + 1)) :
    Calls Try.prog 12 #[(.pointer (some ⟨b, 0, none⟩)), .int .i64 xd, .int .i64 a] w (RSerPost w b (.slice (some ⟨g, 0, none⟩) L.length (k0 + 1)) f (setT L xd a) (.int .i64 0)) := by
  obtain ⟨i0, hi, hz0, hz1, hz2⟩ := info_parts info_tMark
  have hfb := h.fb
  have c0 := cell_of_cells h.blk 0
  have c1 := cell_of_cells h.blk 1
  have hreads := Reads.of_owns h.row
  have hone := Turn.one L
  have hsok := setT_ok h.ok h1 h2 a1 a2
  have hbl : b < w.heap.size := lt_of_block h.blk
  have hlen : k0 + 1 + 0 = (setT L xd a).length := by rw [hcons]; simp only [List.length_append, List.length_take, List.length_cons, List.length_drop]; omega
  have hend := fun (n3 c3 : Nat) (w3 : World) (ad3 : Option Addr) (hn : n3 = (setT L xd a).length) (ho : w3.ownsRow 0 60 2 (.slice ad3 n3 c3) n3 ((L.flatMap Turn.cells).take (k0 * 2) ++ [.int .i64 xd, .int .i64 a] ++ (L.flatMap Turn.cells).drop ((k0 + 1) * 2))) hk hf =>
    rset_end h hcons hsok hn ho hk hf
  have hsuf : Reads w 2 (.slice (some ⟨g, 0, none⟩) 0 0) 0 ((L.flatMap Turn.cells).drop ((k0 + 1) * 2)) := by
    rw [List.drop_eq_nil_of_le (by rw [flat_length Turn.cells_length]; omega)]; exact Reads.none_of (by simp)
  have x0 : w.cell? ⟨g, k0 * 2, none⟩ = some (.int .i64 xd) := owns_elem Turn.cells_length h.row hx 0 (by decide); clear hx
  have H := Lib.hid h; clear h; have Hreads := Lib.hid hreads; clear hreads; have Hone := Lib.hid hone; clear hone; have Hsok := Lib.hid hsok; clear hsok; have Hend := Lib.hid hend; clear hend; have Hcons := Lib.hid hcons; clear hcons; have Hlen := Lib.hid hlen; clear hlen; have Hsuf := Lib.hid hsuf; clear hsuf; have Hlt := Lib.hid hlt; clear hlt
  go_enter Try.func12, Try.ntmps12
  go_wp2
  go_loop [7] (fun i => ∃ k : Nat, k ≤ k0 ∧ i = .int .i64 k) (fun i => L.length - (intOf i).toNat)
  case atStart => exact ⟨0, Nat.zero_le _, rfl⟩
  case round =>
    obtain ⟨k, hk, rfl⟩ := hrel
    by_cases hkk : k < k0
    · obtain ⟨x, hx⟩ := get_some (L := L) (k := k) (by omega)
      obtain ⟨g', o, c, he, hc⟩ := Hreads.out.elem Turn.cells_length hx (by decide)
      simp only [Value.slice.injEq, true_and, Option.some.injEq, Addr.mk.injEq, and_true] at he
      obtain ⟨⟨rfl, rfl⟩, rfl⟩ := he
      have hd := Hlt.out k x hkk hx
      obtain ⟨yd, yb⟩ := x
      have y0 : w.cell? ⟨g, k * 2, none⟩ = some (.int .i64 yd) := by have := hc 0 (by decide); rwa [Nat.zero_add, Nat.add_zero] at this
      simp only at hd
      have hkl : k < L.length := by omega
      clear hc
      have Hx := Lib.hid hx; clear hx
      go_wp2
      go_round
      case rel => exact ⟨k + 1, by omega, by go_num⟩
      case measure => simp [intOf]; omega
    · obtain rfl : k0 = k := by omega
      clear hkk hk
      have hkl : k0 < L.length := by omega
      have hw1 : IntKind.i64.wrap ((k0 : Int) + 1) = (k0 : Int) + 1 := IntWalk.i64_in _ (by omega)
      have hw2 : (0 : Int) ≤ (k0 : Int) + 1 := by omega
      have hw3 : ((k0 : Int) + 1).toNat = k0 + 1 := by omega
      have hk0 : (0 : Int) ≤ (k0 : Int) := by omega
      have hkn2 : ((k0 + 1) : Int) ≤ (L.length : Int) := by omega
      have hkc : (k0 : Int) ≤ ((k0 + 1) : Int) := by omega
      go_wp2
      go_region_law (first
        | (refine step_append_row rfl (.const (.slice none 0 0)) (.tmp 79) 41 rfl 0 60 i0 _ 2 16 Try.underlying41 hi hz0 hz1 hz2 rfl (by decide) (.slice none 0 0) 0 [] rfl (World.ownsRow_nil _ _ _ _) (.slice (some ⟨g, 0, none⟩) k0 (k0 + 1)) k0 _ rfl (by first | exact (Hreads.out.pre k0 hkn).drew | exact ((Hreads.out.pre k0 hkn).alloc _).drew) (fun u hu => Hone.out u (List.mem_of_mem_take hu)) (by unfold maxLen; omega) (by omega) (by omega) ?_; intro v1 w1 hown1 hk1 hf1; have hF1 : Fresh w w1 v1 := (by first | exact ((Fresh.nil w).keep (Keeps.drew _)).app hk1 hf1 | exact ((Fresh.nil w).keep ((Keeps.alloc _ _).trans (Keeps.drew _))).app hk1 hf1); (try (have Hbx := Lib.hid (box_old (w := World.drew (World.alloc w _)) (heap_alloc_new w _) hk1 (by simp [Value.ownBlock])))); simp only [Nat.zero_add, List.nil_append] at hown1; obtain ⟨ad1, cap1, rfl, hcap1, _⟩ := ownsRow_shape hown1; have c1 := hF1.cell (p := ⟨b, 1, none⟩) hbl; have hbl1 := Nat.lt_of_lt_of_le hbl hF1.1.size; have Hown1 := Lib.hid hown1; have HF1 := Lib.hid hF1; clear hown1 hk1 hf1 hF1)
        | (refine step_append_row rfl (.tmp 80) (.tmp 84) 41 rfl 0 60 i0 _ 2 16 Try.underlying41 hi hz0 hz1 hz2 rfl (by decide) (.slice ad1 k0 cap1) k0 _ rfl (by first | exact Hown1.out.alloc _ | exact Hown1.out) (.slice (some ⟨_, 0, none⟩) 1 1) 1 [.int .i64 xd, .int .i64 a] rfl (by first | exact Reads.lit _ _ _ _ _ rfl | exact Reads.blk Hbx.out rfl) (by simp [Value.oneCell']) (by unfold maxLen; omega) (by omega) (by omega) ?_; intro v2 w2 hown2 hk2 hf2; have hF2 : Fresh w w2 v2 := (by first | exact (HF1.out.keep (Keeps.alloc _ _)).app hk2 hf2 | exact HF1.out.app hk2 hf2); obtain ⟨ad2, cap2, rfl, hcap2, _⟩ := ownsRow_shape hown2; have c1 := hF2.cell (p := ⟨b, 1, none⟩) hbl; have hbl2 := Nat.lt_of_lt_of_le hbl hF2.1.size; have Hown2 := Lib.hid hown2; have HF2 := Lib.hid hF2; clear hown2 hk2 hf2 hF2)
        | (refine step_append_row rfl (.tmp 85) (.tmp 91) 41 rfl 0 60 i0 _ 2 16 Try.underlying41 hi hz0 hz1 hz2 rfl (by decide) (.slice ad2 (k0 + 1) cap2) (k0 + 1) _ rfl Hown2.out (.slice (some ⟨g, 0, none⟩) 0 0) 0 _ rfl (Hsuf.out.keeps HF2.out.1 (by simp)) (fun u hu => Hone.out u (List.mem_of_mem_drop hu)) (by unfold maxLen; omega) (by omega) (by omega) ?_; intro v3 w3 hown3 hk3 hf3; have hF3 := HF2.out.app hk3 hf3; obtain ⟨n3, hn3, hown3⟩ : ∃ n3, n3 = k0 + 1 + 0 ∧ w3.ownsRow 0 60 2 v3 n3 _ := ⟨_, rfl, hown3⟩; have hN3 := Lib.hid (hn3.trans Hlen.out); clear hn3; obtain ⟨ad3, cap3, rfl, hcap3, _⟩ := ownsRow_shape hown3; obtain ⟨c1, e1, hend⟩ := Hend.out _ _ _ _ hN3.out hown3 hF3.1 hF3.2; have Hfin := Lib.hid hend; clear hown3 hk3 hf3 hF3 hend))
      all_goals
        go_wp2
        go_ret
        exact Hfin.out
set_option maxRecDepth 100000 in
set_option maxHeartbeats 3200000 in
theorem rsetB2 (a : Int) (b : Nat) (f : Int) (L : List Turn) (w : World) (g k0 cap : Nat) (xd xb : Int) (h : RSerAt w b (.slice (some ⟨g, 0, none⟩) L.length cap) f L) (hl : L.length ≤ 99999) (h1 : f ≤ xd) (h2 : xd ≤ f + 40000) (a1 : 0 ≤ a) (a2 : a ≤ 1000000000000000) (hx : L[k0]? = some ⟨xd, xb⟩) (hcne : ¬ cap = k0 + 1)
    (hlt : ∀ j t, j < k0 → L[j]? = some t → t.day < xd) (hcons : setT L xd a = L.take k0 ++ ⟨xd, a⟩ :: L.drop (k0 + 1)) (hkn : k0 ≤ L.length) (hen : (k0 + 1) ≤ L.length) (hnc : L.length ≤ cap) :
    Calls Try.prog 12 #[(.pointer (some ⟨b, 0, none⟩)), .int .i64 xd, .int .i64 a] w (RSerPost w b (.slice (some ⟨g, 0, none⟩) L.length cap) f (setT L xd a) (.int .i64 0)) := by
  obtain ⟨i0, hi, hz0, hz1, hz2⟩ := info_parts info_tMark
  have hfb := h.fb
  have c0 := cell_of_cells h.blk 0
  have c1 := cell_of_cells h.blk 1
  have hreads := Reads.of_owns h.row
  have hone := Turn.one L
  have hsok := setT_ok h.ok h1 h2 a1 a2
  have hbl : b < w.heap.size := lt_of_block h.blk
  have hlen : k0 + 1 + (L.length - (k0 + 1)) = (setT L xd a).length := by rw [hcons]; simp only [List.length_append, List.length_take, List.length_cons, List.length_drop]; omega
  have hend := fun (n3 c3 : Nat) (w3 : World) (ad3 : Option Addr) (hn : n3 = (setT L xd a).length) (ho : w3.ownsRow 0 60 2 (.slice ad3 n3 c3) n3 ((L.flatMap Turn.cells).take (k0 * 2) ++ [.int .i64 xd, .int .i64 a] ++ (L.flatMap Turn.cells).drop ((k0 + 1) * 2))) hk hf =>
    rset_end h hcons hsok hn ho hk hf
  have hsuf : Reads w 2 (.slice (some ⟨g, (k0 + 1) * 2, none⟩) (L.length - (k0 + 1)) (cap - (k0 + 1))) (L.length - (k0 + 1)) ((L.flatMap Turn.cells).drop ((k0 + 1) * 2)) := by
    have := hreads.suf (k0 + 1) hen; rwa [Nat.zero_add] at this
  have x0 : w.cell? ⟨g, k0 * 2, none⟩ = some (.int .i64 xd) := owns_elem Turn.cells_length h.row hx 0 (by decide); clear hx
  have H := Lib.hid h; clear h; have Hreads := Lib.hid hreads; clear hreads; have Hone := Lib.hid hone; clear hone; have Hsok := Lib.hid hsok; clear hsok; have Hend := Lib.hid hend; clear hend; have Hcons := Lib.hid hcons; clear hcons; have Hlen := Lib.hid hlen; clear hlen; have Hsuf := Lib.hid hsuf; clear hsuf; have Hlt := Lib.hid hlt; clear hlt
  go_enter Try.func12, Try.ntmps12
  go_wp2
  go_loop [7] (fun i => ∃ k : Nat, k ≤ k0 ∧ i = .int .i64 k) (fun i => L.length - (intOf i).toNat)
  case atStart => exact ⟨0, Nat.zero_le _, rfl⟩
  case round =>
    obtain ⟨k, hk, rfl⟩ := hrel
    by_cases hkk : k < k0
    · obtain ⟨x, hx⟩ := get_some (L := L) (k := k) (by omega)
      obtain ⟨g', o, c, he, hc⟩ := Hreads.out.elem Turn.cells_length hx (by decide)
      simp only [Value.slice.injEq, true_and, Option.some.injEq, Addr.mk.injEq, and_true] at he
      obtain ⟨⟨rfl, rfl⟩, rfl⟩ := he
      have hd := Hlt.out k x hkk hx
      obtain ⟨yd, yb⟩ := x
      have y0 : w.cell? ⟨g, k * 2, none⟩ = some (.int .i64 yd) := by have := hc 0 (by decide); rwa [Nat.zero_add, Nat.add_zero] at this
      simp only at hd
      have hkl : k < L.length := by omega
      clear hc
      have Hx := Lib.hid hx; clear hx
      go_wp2
      go_round
      case rel => exact ⟨k + 1, by omega, by go_num⟩
      case measure => simp [intOf]; omega
    · obtain rfl : k0 = k := by omega
      clear hkk hk
      have hkl : k0 < L.length := by omega
      have hw1 : IntKind.i64.wrap ((k0 : Int) + 1) = (k0 : Int) + 1 := IntWalk.i64_in _ (by omega)
      have hw2 : (0 : Int) ≤ (k0 : Int) + 1 := by omega
      have hw3 : ((k0 : Int) + 1).toNat = k0 + 1 := by omega
      have hk0 : (0 : Int) ≤ (k0 : Int) := by omega
      have hkn2 : ((k0 + 1) : Int) ≤ (L.length : Int) := by omega
      have hkc : (k0 : Int) ≤ (cap : Int) := by omega
      go_wp2
      go_region_law (first
        | (refine step_append_row rfl (.const (.slice none 0 0)) (.tmp 79) 41 rfl 0 60 i0 _ 2 16 Try.underlying41 hi hz0 hz1 hz2 rfl (by decide) (.slice none 0 0) 0 [] rfl (World.ownsRow_nil _ _ _ _) (.slice (some ⟨g, 0, none⟩) k0 cap) k0 _ rfl (by first | exact (Hreads.out.pre k0 hkn).drew | exact ((Hreads.out.pre k0 hkn).alloc _).drew) (fun u hu => Hone.out u (List.mem_of_mem_take hu)) (by unfold maxLen; omega) (by omega) (by omega) ?_; intro v1 w1 hown1 hk1 hf1; have hF1 : Fresh w w1 v1 := (by first | exact ((Fresh.nil w).keep (Keeps.drew _)).app hk1 hf1 | exact ((Fresh.nil w).keep ((Keeps.alloc _ _).trans (Keeps.drew _))).app hk1 hf1); (try (have Hbx := Lib.hid (box_old (w := World.drew (World.alloc w _)) (heap_alloc_new w _) hk1 (by simp [Value.ownBlock])))); simp only [Nat.zero_add, List.nil_append] at hown1; obtain ⟨ad1, cap1, rfl, hcap1, _⟩ := ownsRow_shape hown1; have c1 := hF1.cell (p := ⟨b, 1, none⟩) hbl; have hbl1 := Nat.lt_of_lt_of_le hbl hF1.1.size; have Hown1 := Lib.hid hown1; have HF1 := Lib.hid hF1; clear hown1 hk1 hf1 hF1)
        | (refine step_append_row rfl (.tmp 80) (.tmp 84) 41 rfl 0 60 i0 _ 2 16 Try.underlying41 hi hz0 hz1 hz2 rfl (by decide) (.slice ad1 k0 cap1) k0 _ rfl (by first | exact Hown1.out.alloc _ | exact Hown1.out) (.slice (some ⟨_, 0, none⟩) 1 1) 1 [.int .i64 xd, .int .i64 a] rfl (by first | exact Reads.lit _ _ _ _ _ rfl | exact Reads.blk Hbx.out rfl) (by simp [Value.oneCell']) (by unfold maxLen; omega) (by omega) (by omega) ?_; intro v2 w2 hown2 hk2 hf2; have hF2 : Fresh w w2 v2 := (by first | exact (HF1.out.keep (Keeps.alloc _ _)).app hk2 hf2 | exact HF1.out.app hk2 hf2); obtain ⟨ad2, cap2, rfl, hcap2, _⟩ := ownsRow_shape hown2; have c1 := hF2.cell (p := ⟨b, 1, none⟩) hbl; have hbl2 := Nat.lt_of_lt_of_le hbl hF2.1.size; have Hown2 := Lib.hid hown2; have HF2 := Lib.hid hF2; clear hown2 hk2 hf2 hF2)
        | (refine step_append_row rfl (.tmp 85) (.tmp 91) 41 rfl 0 60 i0 _ 2 16 Try.underlying41 hi hz0 hz1 hz2 rfl (by decide) (.slice ad2 (k0 + 1) cap2) (k0 + 1) _ rfl Hown2.out (.slice (some ⟨g, (k0 + 1) * 2, none⟩) (L.length - (k0 + 1)) (cap - (k0 + 1))) (L.length - (k0 + 1)) _ rfl (Hsuf.out.keeps HF2.out.1 (by simp)) (fun u hu => Hone.out u (List.mem_of_mem_drop hu)) (by unfold maxLen; omega) (by omega) (by omega) ?_; intro v3 w3 hown3 hk3 hf3; have hF3 := HF2.out.app hk3 hf3; obtain ⟨n3, hn3, hown3⟩ : ∃ n3, n3 = k0 + 1 + (L.length - (k0 + 1)) ∧ w3.ownsRow 0 60 2 v3 n3 _ := ⟨_, rfl, hown3⟩; have hN3 := Lib.hid (hn3.trans Hlen.out); clear hn3; obtain ⟨ad3, cap3, rfl, hcap3, _⟩ := ownsRow_shape hown3; obtain ⟨c1, e1, hend⟩ := Hend.out _ _ _ _ hN3.out hown3 hF3.1 hF3.2; have Hfin := Lib.hid hend; clear hown3 hk3 hf3 hF3 hend))
      all_goals
        go_wp2
        go_ret
        exact Hfin.out
end Go.Proofs.Ytddmmnkhblcpiaa
