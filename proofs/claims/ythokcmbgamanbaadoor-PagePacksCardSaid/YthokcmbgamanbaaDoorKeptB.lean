/- The helper Kept at bytes. -/
import Derived.Test.YthokcmbgamanbaaDoorOwn
namespace Go.Proofs.YthokcmbgamanbaaDoor
open Go.RowKit
set_option maxRecDepth 100000 in
set_option maxHeartbeats 400000 in
theorem plainByte1_same (a : Int) (w : World) : Calls Tryd.prog 54 #[.int .u8 a, .int .u8 a] w
    fun e w' => e = .returned (.bool true) ∧ w = w' := by
  go_enter Tryd.func54, Tryd.ntmps54
  go_wp2
  go_ret
  exact ⟨rfl, rfl⟩
set_option maxRecDepth 100000 in
set_option maxHeartbeats 400000 in
theorem sameByte_same (L : List Int) (v1 v2 : Value) (w : World) (h1 : Reads w 1 v1 L.length (L.flatMap u8c)) (h2 : Reads w 1 v2 L.length (L.flatMap u8c)) (hl : L.length ≤ 1000000000000) :
    Calls Tryd.prog 53 #[v1, v2, .func (.func 54) #[] #[]] w fun e w' => e = .returned (.bool true) ∧ Keeps (fun _ => False) w w' := by
  have g1 := h1
  have g2 := h2
  obtain ⟨ad1, c1, rfl, _, _⟩ := g1
  obtain ⟨ad2, c2, rfl, _, _⟩ := g2
  have H1 := Lib.hid h1; clear h1; have H2 := Lib.hid h2; clear h2
  go_enter Tryd.func53, Tryd.ntmps53
  go_wp2
  go_loopw [7] (fun i wr => ∃ k : Nat, k ≤ L.length ∧ i = .int .i64 k ∧ Keeps (fun _ => False) w wr) (fun i _ => L.length - (intOf i).toNat)
  case atStart => exact ⟨0, Nat.zero_le _, rfl, Keeps.refl _ _⟩
  case round =>
    obtain ⟨k, hk, rfl, hkp⟩ := hrel
    have Hkp := Lib.hid hkp; clear hkp
    by_cases hlt : k < L.length
    · obtain ⟨x, hx⟩ : ∃ x, L[k]? = some x := ⟨L[k], List.getElem?_eq_getElem hlt⟩
      obtain ⟨g, o, c, he, hc⟩ := (H1.out.keeps Hkp.out (by simp)).elem u8c_length hx (by decide)
      obtain ⟨g', o', c', he', hc'⟩ := (H2.out.keeps Hkp.out (by simp)).elem u8c_length hx (by decide)
      simp only [Value.slice.injEq, true_and] at he he'
      obtain ⟨rfl, rfl⟩ := he
      obtain ⟨rfl, rfl⟩ := he'
      have x0 : wr.cell? ⟨g, o + k, none⟩ = some (.int .u8 x) := by have := hc 0 (by decide); simpa [u8c] using this
      have y0 : wr.cell? ⟨g', o' + k, none⟩ = some (.int .u8 x) := by have := hc' 0 (by decide); simpa [u8c] using this
      clear hc hc'
      have Hx := Lib.hid hx; clear hx
      go_wp2
      go_still_tail 9, (by kernel_rfl)
      go_wp2_with (go_at_call 54; refine (plainByte1_same _ _).mono ?_; rintro e w' ⟨rfl, rfl⟩)
      go_roundw
      case rel => exact ⟨k + 1, by omega, by go_num, (Hkp.out.trans (Keeps.drew _))⟩
      case measure => simp [intOf]; omega
    · go_wp2
      go_ret
      exact ⟨rfl, Hkp.out⟩
set_option maxRecDepth 100000 in
set_option maxHeartbeats 400000 in
theorem plainByte_same (L : List Int) (v1 v2 : Value) (w : World) (h1 : Reads w 1 v1 L.length (L.flatMap u8c)) (h2 : Reads w 1 v2 L.length (L.flatMap u8c)) (hl : L.length ≤ 1000000000000) :
    Calls Tryd.prog 42 #[v1, v2] w fun e w' => e = .returned (.bool true) ∧ Keeps (fun _ => False) w w' := by
  have H1 := Lib.hid h1; clear h1; have H2 := Lib.hid h2; clear h2
  go_enter Tryd.func42, Tryd.ntmps42
  go_wp2_with (go_at_call 53; refine (sameByte_same L _ _ _ H1.out H2.out hl).mono ?_; rintro e w' ⟨rfl, hk2⟩; have Hk2 := Lib.hid hk2; clear hk2)
  go_ret
  exact ⟨rfl, Hk2.out⟩
theorem OwnAt.reads {e : TypeId} {w : World} {g : Nat} {L : List Int} {x : Int} (h : OwnAt u8c e w g L x) (c : Nat) (hc : L.length ≤ c) (n : Nat) (hn : n ≤ L.length + 3) (hc' : n ≤ c) : Reads w 1 (.slice (some ⟨g, 0, none⟩) n c) n (((L ++ List.replicate 3 x).take n).flatMap u8c) := by
  refine ⟨_, _, rfl, hc', by rw [flat_length u8c_length]; simp; omega, by simp, fun j u hj => ⟨g, 0, rfl, ?_⟩⟩
  rw [Nat.zero_add, cell_of_cells h.blk, List.getElem?_toArray]
  have e1 := flat_takek u8c_length (L ++ List.replicate 3 x) n
  rw [← e1] at hj
  rw [List.getElem?_take] at hj
  split at hj
  · exact hj
  · simp at hj
set_option maxRecDepth 100000 in
set_option maxHeartbeats 400000 in
theorem keptByte_any (g : Nat) (ad : Option Addr) (cap : Nat) (L : List Int) (x : Int) (w : World) (h : OwnAt u8c 5 w g L x) (hr : Reads w 1 (.slice ad L.length cap) L.length (L.flatMap u8c)) (hl : L.length ≤ 1000000) :
    Calls Tryd.prog 21 #[.slice (some ⟨g, 0, none⟩) L.length (L.length + 3), .slice ad L.length cap, .int .u8 x] w fun e w' => e = .returned (.bool true) ∧ Keeps (fun _ => False) w w' := by
  have ho : Reads w 1 (.slice (some ⟨g, 0, none⟩) L.length (L.length + 3)) L.length (L.flatMap u8c) := by
    have := h.reads (L.length + 3) (by omega) L.length (by omega) (by omega)
    simpa using this
  have hgl := lt_of_block h.blk
  have H := Lib.hid h; clear h; have Hr := Lib.hid hr; clear hr; have Ho := Lib.hid ho; clear ho
  go_enter Tryd.func21, Tryd.ntmps21
  go_wp2_with (go_at_call 42; refine (plainByte_same L _ _ _ Ho.out Hr.out (by omega)).mono ?_; rintro e w1 ⟨rfl, hk1⟩; have Hk1 := Lib.hid hk1; clear hk1)
  go_loop [8] (fun c => ∃ (j : Nat), j ≤ 3 ∧ c = .int .i64 ((L.length + j : Nat) : Int)) (fun c => L.length + 3 - (intOf c).toNat)
  case atStart => exact ⟨0, by omega, by simp⟩
  case round =>
    obtain ⟨j, hj, rfl⟩ := hrel
    by_cases hj3 : j < 3
    · have hc : w1.cell? ⟨g, L.length + j, none⟩ = some (.int .u8 x) := by
        rw [(Hk1.out.cell (p := ⟨g, L.length + j, none⟩) hgl (by simp)), cell_of_cells H.out.blk, List.getElem?_toArray]
        have := flat_get u8c_length (L := L ++ List.replicate 3 x) (k := L.length + j) (j := 0) (x := x) (by rw [List.getElem?_append_right (by omega), Nat.add_sub_cancel_left, List.getElem?_replicate, if_pos hj3]) (by decide)
        simpa [u8c] using this
      have hjl : ((L.length + j : Nat) : Int) < (L.length : Int) + 3 := by omega
      go_wp2
      go_round
      case rel => exact ⟨j + 1, by omega, by go_num⟩
      case measure => simp [intOf]; omega
    · obtain rfl : j = 3 := by omega
      go_wp2
      go_ret
      exact ⟨rfl, Hk1.out⟩
end Go.Proofs.YthokcmbgamanbaaDoor
