/- The walks of the page layer: the reader of numbers. -/
import Derived.Test.YthokcmbgamanbaaDoorPagePlain
namespace Go.Proofs.YthokcmbgamanbaaDoor
open Go.RowKit
/-- The reader in memory: p numbers were taken of B; the bytes lie ahead of block lo. -/
structure WRd (lo : Nat) (w : World) (b : Nat) (B : List Int) (p : Nat) : Prop where
  ex : ∃ ad m c sh, w.heap[b]? = some (.cells #[.slice ad m c, .bool sh] 81 (0, 0)) ∧
    (8 * p ≤ B.length → sh = false ∧ m = B.length - 8 * p ∧ Reads w 1 (.slice ad m c) m ((B.drop (8 * p)).flatMap u8c) ∧ (0 < m → ∀ g, (Value.slice ad m c).ownBlock = some g → g < lo)) ∧ (B.length < 8 * p → sh = true ∧ m = 0)
  lob : lo ≤ b
theorem WRd.keeps {lo : Nat} {S : Nat → Prop} {w w' : World} {b : Nat} {B : List Int} {p : Nat} (h : WRd lo w b B p) (hk : Keeps S w w') (hS : ∀ j, S j → lo ≤ j ∧ j ≠ b) : WRd lo w' b B p := by
  obtain ⟨⟨ad, m, c, sh, h1, h2, h3⟩, h4⟩ := h
  refine ⟨⟨ad, m, c, sh, by rw [hk.block b (lt_of_block h1) (fun hs => (hS b hs).2 rfl)]; exact h1, fun hp => ?_, h3⟩, h4⟩
  obtain ⟨q1, q2, q3, q4⟩ := h2 hp
  refine ⟨q1, q2, ?_, q4⟩
  by_cases hm : 0 < m
  · exact q3.keeps hk fun g hg hs => by have := q4 hm g hg; have := (hS g hs).1; omega
  · obtain ⟨ad', c', he, a1, a2, a3, a4⟩ := q3
    refine ⟨ad', c', he, a1, a2, a3, fun j u hj => ?_⟩
    rw [List.drop_eq_nil_of_le (by omega)] at hj
    simp at hj
/-- The number that is taken; 0 where there is too little. -/
def numR (B : List Int) (p : Nat) : Int := if 8 * p + 8 ≤ B.length then numAt B p else 0
def NumPost (lo : Nat) (w : World) (b : Nat) (B : List Int) (p : Nat) (e : Ending) (w' : World) : Prop := e = .returned (.int .i64 (numR B p)) ∧ WRd lo w' b B (p + 1) ∧ Keeps (fun j => j = b) w w'
set_option maxRecDepth 100000 in
set_option maxHeartbeats 400000 in
theorem wNum_short (lo b p : Nat) (B : List Int) (w : World) (h : WRd lo w b B p) (hl : B.length ≤ 1000000000) (hp : B.length < 8 * p + 8) : Calls Tryd.prog 33 #[(.pointer (some ⟨b, 0, none⟩))] w (NumPost lo w b B p) := by
  obtain ⟨⟨ad, m, c, sh, hb, h2, h3⟩, hlb⟩ := h
  have c0 := cell_of_cells hb 0
  have c1 := cell_of_cells hb 1
  have e0 := free_of_cells hb 0
  have e1 := free_of_cells hb 1
  have hbl := lt_of_block hb
  have hm : m < 8 := by
    by_cases h : 8 * p ≤ B.length
    · have := (h2 h).2.1; omega
    · have := (h3 (by omega)).2; omega
  have hnum : numR B p = 0 := by unfold numR; rw [if_neg (by omega)]
  have hfin : WRd lo ((w.setCell ⟨b, 0, none⟩ (.slice none 0 0)).setCell ⟨b, 1, none⟩ (.bool true)) b B (p + 1) ∧ Keeps (fun j => j = b) w ((w.setCell ⟨b, 0, none⟩ (.slice none 0 0)).setCell ⟨b, 1, none⟩ (.bool true)) :=
    ⟨⟨⟨none, 0, 0, true, heap_setCell_same _ _ 1 _ _ _ (heap_setCell_same _ _ 0 _ _ _ hb), fun h => by omega, fun _ => ⟨rfl, rfl⟩⟩, hlb⟩, Keeps.trans (S := fun j => j = b) (Keeps.setCell _ _ _ rfl) (Keeps.setCell _ _ _ (.inl rfl))⟩
  unfold NumPost
  rw [hnum]
  clear h2 h3
  have Hb := Lib.hid hb; clear hb; have Hfin := Lib.hid hfin; clear hfin; have Hnum := Lib.hid hnum; clear hnum
  go_enter Tryd.func33, Tryd.ntmps33
  go_wp2
  go_ret
  exact ⟨rfl, Hfin.out⟩
set_option maxRecDepth 100000 in
set_option maxHeartbeats 800000 in
theorem wNum_ok (lo b p : Nat) (B : List Int) (w : World) (h : WRd lo w b B p) (hl : B.length ≤ 1000000000) (hB : ∀ z ∈ B, 0 ≤ z ∧ z ≤ 255) (hp : 8 * p + 8 ≤ B.length) : Calls Tryd.prog 33 #[(.pointer (some ⟨b, 0, none⟩))] w (NumPost lo w b B p) := by
  obtain ⟨⟨ad, m, c, sh, hb, h2, _⟩, hlb⟩ := h
  obtain ⟨rfl, hm, hr, hlo⟩ := h2 (by omega)
  have c0 := cell_of_cells hb 0
  have e0 := free_of_cells hb 0
  have hbl := lt_of_block hb
  obtain ⟨D, hD⟩ : ∃ D, (B.drop (8 * p)).take 8 = D := ⟨_, rfl⟩
  have hDl : D.length = 8 := by rw [← hD, List.length_take, List.length_drop]; omega
  have hDg : ∀ (i : Nat) (z : Int), D[i]? = some z → (B.drop (8 * p))[i]? = some z ∧ 0 ≤ z ∧ z ≤ 255 := fun i z hz => by
    have hi := lt_of_get hz
    rw [← hD, List.getElem?_take_of_lt (by omega)] at hz
    exact ⟨hz, hB z (List.mem_of_mem_drop (List.mem_of_getElem? hz))⟩
  have hnum : IntKind.i64.wrap (poly (D.take 8)) = numR B p := by
    unfold numR numAt numOf; rw [if_pos hp, ← hD, List.take_take]; rfl
  have hcm : m ≤ c := by obtain ⟨_, _, he, h1, _⟩ := hr; simp only [Value.slice.injEq, true_and] at he; omega
  obtain ⟨g, o, rfl, hcell⟩ : ∃ g o, ad = some ⟨g, o, none⟩ ∧ ∀ (i : Nat) (z : Int), D[i]? = some z → w.cell? ⟨g, o + i, none⟩ = some (.int .u8 z) ∧ 0 ≤ z ∧ z ≤ 255 := by
    obtain ⟨z, hz⟩ := get_some (L := D) (k := 0) (by omega)
    obtain ⟨g, o, c', he, _⟩ := hr.elem u8c_length (hDg 0 z hz).1 (by decide)
    simp only [Value.slice.injEq, true_and] at he
    obtain ⟨rfl, rfl⟩ := he
    refine ⟨g, o, rfl, fun i z hz => ⟨?_, (hDg i z hz).2⟩⟩
    obtain ⟨g', o', c', he, hc⟩ := hr.elem u8c_length (hDg i z hz).1 (by decide)
    simp only [Value.slice.injEq, true_and, Option.some.injEq, Addr.mk.injEq, and_true] at he
    obtain ⟨⟨rfl, rfl⟩, rfl⟩ := he
    have := hc 0 (by decide); simpa [u8c] using this
  have hgb := hlo (by omega) g rfl
  have hm8 : 8 ≤ m := by omega
  have hmb : m ≤ 1000000000 := by omega
  have hpost : ∀ ad', (Reads w 1 (.slice ad' (m - 8) (c - 8)) (m - 8) ((B.drop (8 * (p + 1))).flatMap u8c)) → (∀ g', (Value.slice ad' (m - 8) (c - 8)).ownBlock = some g' → g' < lo) →
      WRd lo (w.setCell ⟨b, 0, none⟩ (.slice ad' (m - 8) (c - 8))) b B (p + 1) ∧ Keeps (fun j => j = b) w (w.setCell ⟨b, 0, none⟩ (.slice ad' (m - 8) (c - 8))) := fun ad' h1 h2 => by
    have hk1 : Keeps (fun j => j = b) w (w.setCell ⟨b, 0, none⟩ (.slice ad' (m - 8) (c - 8))) := Keeps.setCell _ _ _ rfl
    exact ⟨⟨⟨ad', m - 8, c - 8, false, heap_setCell_same _ _ 0 _ _ _ hb, fun _ => ⟨rfl, by omega, h1.keeps hk1 fun g' hg' e => by have := h2 g' hg'; omega, fun _ g' hg' => h2 g' hg'⟩, fun h => by omega⟩, hlb⟩, hk1⟩
  unfold NumPost
  by_cases hc8 : c = 8
  · subst hc8
    obtain rfl : m = 8 := by omega
    have hfin := hpost (some ⟨g, o, none⟩) (by rw [List.drop_eq_nil_of_le (by omega)]; exact Reads.none_of (by simp)) (fun g' hg' => by simp only [Value.ownBlock, Option.some.injEq] at hg'; omega)
    have Hb := Lib.hid hb; clear hb; have Hr := Lib.hid hr; clear hr; have Hlo := Lib.hid hlo; clear hlo; have Hm := Lib.hid hm; clear hm; have Hpost := Lib.hid hpost; clear hpost; have Hfin := Lib.hid hfin; clear hfin; have HB := Lib.hid hB; clear hB; have HD := Lib.hid hD; clear hD; have HDl := Lib.hid hDl; clear hDl; have HDg := Lib.hid hDg; clear hDg; have Hnum := Lib.hid hnum; clear hnum; have Hcell := Lib.hid hcell; clear hcell
    go_enter Tryd.func33, Tryd.ntmps33
    go_wp2
    go_loop [3, 24] (fun v q => ∃ i : Nat, i ≤ 8 ∧ q = .int .i64 (i : Nat) ∧ v = .int .i64 (IntKind.i64.wrap (poly (D.take i)))) (fun _ q => (8 - intOf q).toNat)
    case atStart => exact ⟨0, Nat.zero_le _, rfl, rfl⟩
    case round =>
      obtain ⟨i, hi, rfl, rfl⟩ := hrel
      by_cases hi8 : i < 8
      · obtain ⟨z, hz⟩ := get_some (L := D) (k := i) (by rw [HDl.out]; omega)
        obtain ⟨x0, hz0, hz1⟩ := Hcell.out i z hz
        have hz255 : z < 256 := by omega
        have hsn := num_step (D.take i) z hz0 hz255
        rw [← take_snoc' hz] at hsn
        obtain ⟨V, hV⟩ : ∃ V, IntKind.i64.wrap (poly (D.take i)) = V := ⟨_, rfl⟩
        rw [hV] at hsn ⊢
        have Hz := Lib.hid hz; clear hz; have Hsn := Lib.hid hsn; clear hsn; have HV := Lib.hid hV; clear hV
        go_wp2
        go_round
        case rel => exact ⟨i + 1, by omega, by go_num, by rw [← Hsn.out, IntWalk.i64_left (V * 256)]⟩
        case measure => simp [intOf]; omega
      · obtain rfl : i = 8 := by omega
        rw [Hnum.out]
        go_wp2
        go_ret
        exact ⟨rfl, Hfin.out⟩
  · have hsuf : Reads w 1 (.slice (some ⟨g, o + 8, none⟩) (m - 8) (c - 8)) (m - 8) ((B.drop (8 * (p + 1))).flatMap u8c) := by
      have := hr.sufL u8c_length 8 (by omega)
      rw [List.drop_drop] at this
      simpa [Nat.mul_add] using this
    have hfin := hpost (some ⟨g, o + 8, none⟩) hsuf (fun g' hg' => by simp only [Value.ownBlock, Option.some.injEq] at hg'; omega)
    clear hsuf
    have Hb := Lib.hid hb; clear hb; have Hr := Lib.hid hr; clear hr; have Hlo := Lib.hid hlo; clear hlo; have Hm := Lib.hid hm; clear hm; have Hpost := Lib.hid hpost; clear hpost; have Hfin := Lib.hid hfin; clear hfin; have HB := Lib.hid hB; clear hB; have HD := Lib.hid hD; clear hD; have HDl := Lib.hid hDl; clear hDl; have HDg := Lib.hid hDg; clear hDg; have Hnum := Lib.hid hnum; clear hnum; have Hcell := Lib.hid hcell; clear hcell
    go_enter Tryd.func33, Tryd.ntmps33
    go_wp2
    go_loop [3, 24] (fun v q => ∃ i : Nat, i ≤ 8 ∧ q = .int .i64 (i : Nat) ∧ v = .int .i64 (IntKind.i64.wrap (poly (D.take i)))) (fun _ q => (8 - intOf q).toNat)
    case atStart => exact ⟨0, Nat.zero_le _, rfl, rfl⟩
    case round =>
      obtain ⟨i, hi, rfl, rfl⟩ := hrel
      by_cases hi8 : i < 8
      · obtain ⟨z, hz⟩ := get_some (L := D) (k := i) (by rw [HDl.out]; omega)
        obtain ⟨x0, hz0, hz1⟩ := Hcell.out i z hz
        have hz255 : z < 256 := by omega
        have hsn := num_step (D.take i) z hz0 hz255
        rw [← take_snoc' hz] at hsn
        obtain ⟨V, hV⟩ : ∃ V, IntKind.i64.wrap (poly (D.take i)) = V := ⟨_, rfl⟩
        rw [hV] at hsn ⊢
        have Hz := Lib.hid hz; clear hz; have Hsn := Lib.hid hsn; clear hsn; have HV := Lib.hid hV; clear hV
        go_wp2
        go_round
        case rel => exact ⟨i + 1, by omega, by go_num, by rw [← Hsn.out, IntWalk.i64_left (V * 256)]⟩
        case measure => simp [intOf]; omega
      · obtain rfl : i = 8 := by omega
        rw [Hnum.out]
        go_wp2
        go_ret
        exact ⟨rfl, Hfin.out⟩
theorem wNum_any (lo b p : Nat) (B : List Int) (w : World) (h : WRd lo w b B p) (hl : B.length ≤ 1000000000) (hB : ∀ z ∈ B, 0 ≤ z ∧ z ≤ 255) : Calls Tryd.prog 33 #[(.pointer (some ⟨b, 0, none⟩))] w (NumPost lo w b B p) := by
  by_cases hp : 8 * p + 8 ≤ B.length
  · exact wNum_ok lo b p B w h hl hB hp
  · exact wNum_short lo b p B w h hl (by omega)
theorem wNum_at {lo b p : Nat} {B : List Int} {w : World} (h : WRd lo w b B p) (hl : B.length ≤ 1000000000) (hB : ∀ z ∈ B, 0 ≤ z ∧ z ≤ 255) {z : Int} (hz : numR B p = z) :
    Calls Tryd.prog 33 #[(.pointer (some ⟨b, 0, none⟩))] w fun e w' => e = .returned (.int .i64 z) ∧ WRd lo w' b B (p + 1) ∧ Keeps (fun j => j = b) w w' := by
  subst hz; exact wNum_any lo b p B w h hl hB
set_option maxRecDepth 100000 in
set_option maxHeartbeats 400000 in
theorem wInt_at {lo b p : Nat} {B : List Int} {w : World} (h : WRd lo w b B p) (hl : B.length ≤ 1000000000) (hB : ∀ z ∈ B, 0 ≤ z ∧ z ≤ 255) {z : Int} (hz : numR B p = z) :
    Calls Tryd.prog 32 #[(.pointer (some ⟨b, 0, none⟩))] w fun e w' => e = .returned (.int .i64 z) ∧ WRd lo w' b B (p + 1) ∧ Keeps (fun j => j = b) w w' := by
  have H := Lib.hid h; clear h; have HB := Lib.hid hB; clear hB; have Hz := Lib.hid hz; clear hz
  go_enter Tryd.func32, Tryd.ntmps32
  go_wp2_with (go_at_call 33; refine (wNum_at H.out hl HB.out Hz.out).mono ?_; rintro e w1 ⟨rfl, h1, h2⟩; have H1 := Lib.hid h1; have H2 := Lib.hid h2; clear h1 h2)
  go_ret
  exact ⟨rfl, H1.out, H2.out⟩
set_option maxRecDepth 100000 in
set_option maxHeartbeats 400000 in
theorem wShort_at {lo b p : Nat} {B : List Int} {w : World} (h : WRd lo w b B p) :
    Calls Tryd.prog 34 #[(.pointer (some ⟨b, 0, none⟩))] w fun e w' => e = .returned (.bool (decide (B.length < 8 * p))) ∧ w = w' := by
  obtain ⟨⟨ad, m, c, sh, hb, h2, h3⟩, hlb⟩ := h
  have c1 := cell_of_cells hb 1
  have hs : sh = decide (B.length < 8 * p) := by
    by_cases h : 8 * p ≤ B.length
    · rw [(h2 h).1]; simp; omega
    · rw [(h3 (by omega)).1]; simp; omega
  clear h2 h3
  have Hb := Lib.hid hb; clear hb; have Hs := Lib.hid hs; clear hs
  go_enter Tryd.func34, Tryd.ntmps34
  go_wp2
  go_ret
  exact ⟨by rw [← Hs.out]; rfl, rfl⟩
set_option maxRecDepth 100000 in
set_option maxHeartbeats 400000 in
theorem wLeft_at {lo b p : Nat} {B : List Int} {w : World} (h : WRd lo w b B p) (hp : 8 * p ≤ B.length) :
    Calls Tryd.prog 35 #[(.pointer (some ⟨b, 0, none⟩))] w fun e w' => e = .returned (.int .i64 ((B.length - 8 * p : Nat) : Int)) ∧ w = w' := by
  obtain ⟨⟨ad, m, c, sh, hb, h2, h3⟩, hlb⟩ := h
  have c0 := cell_of_cells hb 0
  obtain ⟨rfl, hm, _, _⟩ := h2 hp
  clear h2 h3
  have Hb := Lib.hid hb; clear hb; have Hm := Lib.hid hm; clear hm
  go_enter Tryd.func35, Tryd.ntmps35
  go_wp2
  go_ret
  exact ⟨by rw [← Hm.out]; rfl, rfl⟩
set_option maxRecDepth 100000 in
set_option maxHeartbeats 400000 in
theorem wideNew_at (lo : Nat) (ad : Option Addr) (cap : Nat) (B : List Int) (w : World) (hr : Reads w 1 (.slice ad B.length cap) B.length (B.flatMap u8c)) (hlo : 0 < B.length → ∀ g, (Value.slice ad B.length cap).ownBlock = some g → g < lo) (hlw : lo ≤ w.heap.size) :
    Calls Tryd.prog 31 #[.slice ad B.length cap] w fun e w' => e = .returned (.pointer (some ⟨w.heap.size, 0, none⟩)) ∧ WRd lo w' w.heap.size B 0 ∧ Keeps (fun _ => False) w w' := by
  have hfin : WRd lo (w.alloc (.cells #[.slice ad B.length cap, .bool false] 81)) w.heap.size B 0 ∧ Keeps (fun _ => False) w (w.alloc (.cells #[.slice ad B.length cap, .bool false] 81)) :=
    ⟨⟨⟨ad, B.length, cap, false, heap_alloc_new w _, fun _ => ⟨rfl, by omega, hr.alloc _, hlo⟩, fun h => by omega⟩, hlw⟩, Keeps.alloc _ _⟩
  have Hr := Lib.hid hr; clear hr; have Hfin := Lib.hid hfin; clear hfin
  go_enter Tryd.func31, Tryd.ntmps31
  go_wp2
  go_ret
  exact ⟨rfl, Hfin.out⟩
end Go.Proofs.YthokcmbgamanbaaDoor
