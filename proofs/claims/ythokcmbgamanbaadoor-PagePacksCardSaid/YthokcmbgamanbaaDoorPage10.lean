/- The walks of the page layer: the document's numbers as bytes. -/
import Derived.Test.YthokcmbgamanbaaDoorPage6
import Derived.Deep.RegionLaw
namespace Go.Proofs.YthokcmbgamanbaaDoor
open Go.RowKit
theorem eight_wrap (v : Int) : eight (IntKind.u64.wrap v) = eight v := by
  simp only [eight, IntKind.wrap, IntKind.signed, IntKind.bits]
  simp
  omega
theorem Fr.app {w wr w4 : World} {v v4 : Value} {C : List Int} {z : Int} {o : Obj} {xs : List Value} {n : Nat} (h : Fr w wr v C) (hx : xs = C.flatMap u8c ++ [.int .u8 z]) (hn : n = C.length + 1) (ho : w4.ownsRow 0 5 1 v4 n xs) (hk : Keeps (fun k => v.ownBlock = some k) (wr.alloc o) w4) (hf : v4.ownBlock = v.ownBlock ∨ ∃ g, v4.ownBlock = some g ∧ wr.heap.size + 1 ≤ g) : Fr w w4 v4 (C ++ [z]) :=
  h.grow ((Grown.refl h.row).app hx hn ho hk hf)
set_option maxRecDepth 100000 in
set_option maxHeartbeats 3200000 in
theorem helpEight_any (x0 : Int) (w : World) : Calls Tryd.prog 30 #[.int .i64 x0] w fun e w' => ∃ v', e = .returned v' ∧ Fr w w' v' (eight x0) := by
  obtain ⟨i0, hi, hi0, hi1, hi2⟩ := info_parts info_tByte
  obtain ⟨x, hx⟩ : ∃ x, IntKind.u64.wrap x0 = x := ⟨_, rfl⟩
  have he : eight x0 = eight x := by rw [← hx, eight_wrap]
  have hxb : 0 ≤ x := by rw [← hx]; simp [IntKind.wrap, IntKind.signed, IntKind.bits]; omega
  rw [he]
  have hnil := Fr.nil w
  clear he
  have Hnil := Lib.hid hnil; clear hnil
  go_enter Tryd.func30, Tryd.ntmps30
  go_wp2
  go_loopw [3, 4] (fun a c wr => ∃ (j : Nat) (va : Value), j ≤ 8 ∧ c = .int .i64 (7 - (j : Int)) ∧ a = va ∧ Fr w wr va ((eight x).take j)) (fun _ c _ => (intOf c + 1).toNat)
  case atStart => exact ⟨0, _, by omega, rfl, rfl, Hnil.out⟩
  case round =>
    obtain ⟨j, va, hj, rfl, rfl, hf⟩ := hrel
    obtain ⟨K, hK⟩ : ∃ K : Int, 7 - (j : Int) = K := ⟨_, rfl⟩
    rw [hK]
    have hrow := hf.row
    obtain ⟨av', capv', rfl, hcv', _⟩ := ownsRow_shape hrow
    obtain ⟨E, hE⟩ : ∃ E, (eight x).take j = E := ⟨_, rfl⟩
    have hEl : E.length ≤ 8 := by rw [← hE, List.length_take, eight_length]; omega
    rw [hE] at hf hrow hcv' ⊢
    by_cases hj7 : j < 8
    · rcases (show j = 0 ∨ j = 1 ∨ j = 2 ∨ j = 3 ∨ j = 4 ∨ j = 5 ∨ j = 6 ∨ j = 7 by omega) with rfl | rfl | rfl | rfl | rfl | rfl | rfl | rfl
      ·
        obtain rfl : K = 7 := by omega
        have Hf := Lib.hid hf; clear hf; have Hrow := Lib.hid hrow; clear hrow; have HE := Lib.hid hE; clear hE
        go_wp2_with (at_builtin; refine wpList_append_row rfl (.tmp 9) (.tmp 17) 31 rfl 0 5 i0 _ 1 1 Tryd.underlying31 hi hi0 hi1 hi2 rfl (by decide) (.slice av' E.length capv') E.length _ rfl (Hrow.out.alloc _) _ 1 _ rfl (Reads.lit _ _ _ _ _ rfl) (by simp [Value.oneCell']) (by unfold maxLen; omega) (by omega) (by omega) ?_)
        intro v4 w4 ho4 hk4 hf4
        have hg4 := Hf.out.app rfl rfl ho4 hk4 hf4
        have Hg4 := Lib.hid hg4; clear hg4
        clear ho4 hk4 hf4
        go_wp2
        go_roundw
        case rel => exact ⟨0 + 1, _, by omega, by go_num, rfl, by have := Hg4.out; rw [← HE.out] at this; exact this⟩
        case measure => simp [intOf]
      ·
        obtain rfl : K = 6 := by omega
        have Hf := Lib.hid hf; clear hf; have Hrow := Lib.hid hrow; clear hrow; have HE := Lib.hid hE; clear hE
        go_wp2_with (at_builtin; refine wpList_append_row rfl (.tmp 9) (.tmp 17) 31 rfl 0 5 i0 _ 1 1 Tryd.underlying31 hi hi0 hi1 hi2 rfl (by decide) (.slice av' E.length capv') E.length _ rfl (Hrow.out.alloc _) _ 1 _ rfl (Reads.lit _ _ _ _ _ rfl) (by simp [Value.oneCell']) (by unfold maxLen; omega) (by omega) (by omega) ?_)
        intro v4 w4 ho4 hk4 hf4
        have hg4 := Hf.out.app rfl rfl ho4 hk4 hf4
        have Hg4 := Lib.hid hg4; clear hg4
        clear ho4 hk4 hf4
        go_wp2
        go_roundw
        case rel => exact ⟨1 + 1, _, by omega, by go_num, rfl, by have := Hg4.out; rw [← HE.out] at this; exact this⟩
        case measure => simp [intOf]
      ·
        obtain rfl : K = 5 := by omega
        have Hf := Lib.hid hf; clear hf; have Hrow := Lib.hid hrow; clear hrow; have HE := Lib.hid hE; clear hE
        go_wp2_with (at_builtin; refine wpList_append_row rfl (.tmp 9) (.tmp 17) 31 rfl 0 5 i0 _ 1 1 Tryd.underlying31 hi hi0 hi1 hi2 rfl (by decide) (.slice av' E.length capv') E.length _ rfl (Hrow.out.alloc _) _ 1 _ rfl (Reads.lit _ _ _ _ _ rfl) (by simp [Value.oneCell']) (by unfold maxLen; omega) (by omega) (by omega) ?_)
        intro v4 w4 ho4 hk4 hf4
        have hg4 := Hf.out.app rfl rfl ho4 hk4 hf4
        have Hg4 := Lib.hid hg4; clear hg4
        clear ho4 hk4 hf4
        go_wp2
        go_roundw
        case rel => exact ⟨2 + 1, _, by omega, by go_num, rfl, by have := Hg4.out; rw [← HE.out] at this; exact this⟩
        case measure => simp [intOf]
      ·
        obtain rfl : K = 4 := by omega
        have Hf := Lib.hid hf; clear hf; have Hrow := Lib.hid hrow; clear hrow; have HE := Lib.hid hE; clear hE
        go_wp2_with (at_builtin; refine wpList_append_row rfl (.tmp 9) (.tmp 17) 31 rfl 0 5 i0 _ 1 1 Tryd.underlying31 hi hi0 hi1 hi2 rfl (by decide) (.slice av' E.length capv') E.length _ rfl (Hrow.out.alloc _) _ 1 _ rfl (Reads.lit _ _ _ _ _ rfl) (by simp [Value.oneCell']) (by unfold maxLen; omega) (by omega) (by omega) ?_)
        intro v4 w4 ho4 hk4 hf4
        have hg4 := Hf.out.app rfl rfl ho4 hk4 hf4
        have Hg4 := Lib.hid hg4; clear hg4
        clear ho4 hk4 hf4
        go_wp2
        go_roundw
        case rel => exact ⟨3 + 1, _, by omega, by go_num, rfl, by have := Hg4.out; rw [← HE.out] at this; exact this⟩
        case measure => simp [intOf]
      ·
        obtain rfl : K = 3 := by omega
        have Hf := Lib.hid hf; clear hf; have Hrow := Lib.hid hrow; clear hrow; have HE := Lib.hid hE; clear hE
        go_wp2_with (at_builtin; refine wpList_append_row rfl (.tmp 9) (.tmp 17) 31 rfl 0 5 i0 _ 1 1 Tryd.underlying31 hi hi0 hi1 hi2 rfl (by decide) (.slice av' E.length capv') E.length _ rfl (Hrow.out.alloc _) _ 1 _ rfl (Reads.lit _ _ _ _ _ rfl) (by simp [Value.oneCell']) (by unfold maxLen; omega) (by omega) (by omega) ?_)
        intro v4 w4 ho4 hk4 hf4
        have hg4 := Hf.out.app rfl rfl ho4 hk4 hf4
        have Hg4 := Lib.hid hg4; clear hg4
        clear ho4 hk4 hf4
        go_wp2
        go_roundw
        case rel => exact ⟨4 + 1, _, by omega, by go_num, rfl, by have := Hg4.out; rw [← HE.out] at this; exact this⟩
        case measure => simp [intOf]
      ·
        obtain rfl : K = 2 := by omega
        have Hf := Lib.hid hf; clear hf; have Hrow := Lib.hid hrow; clear hrow; have HE := Lib.hid hE; clear hE
        go_wp2_with (at_builtin; refine wpList_append_row rfl (.tmp 9) (.tmp 17) 31 rfl 0 5 i0 _ 1 1 Tryd.underlying31 hi hi0 hi1 hi2 rfl (by decide) (.slice av' E.length capv') E.length _ rfl (Hrow.out.alloc _) _ 1 _ rfl (Reads.lit _ _ _ _ _ rfl) (by simp [Value.oneCell']) (by unfold maxLen; omega) (by omega) (by omega) ?_)
        intro v4 w4 ho4 hk4 hf4
        have hg4 := Hf.out.app rfl rfl ho4 hk4 hf4
        have Hg4 := Lib.hid hg4; clear hg4
        clear ho4 hk4 hf4
        go_wp2
        go_roundw
        case rel => exact ⟨5 + 1, _, by omega, by go_num, rfl, by have := Hg4.out; rw [← HE.out] at this; exact this⟩
        case measure => simp [intOf]
      ·
        obtain rfl : K = 1 := by omega
        have Hf := Lib.hid hf; clear hf; have Hrow := Lib.hid hrow; clear hrow; have HE := Lib.hid hE; clear hE
        go_wp2_with (at_builtin; refine wpList_append_row rfl (.tmp 9) (.tmp 17) 31 rfl 0 5 i0 _ 1 1 Tryd.underlying31 hi hi0 hi1 hi2 rfl (by decide) (.slice av' E.length capv') E.length _ rfl (Hrow.out.alloc _) _ 1 _ rfl (Reads.lit _ _ _ _ _ rfl) (by simp [Value.oneCell']) (by unfold maxLen; omega) (by omega) (by omega) ?_)
        intro v4 w4 ho4 hk4 hf4
        have hg4 := Hf.out.app rfl rfl ho4 hk4 hf4
        have Hg4 := Lib.hid hg4; clear hg4
        clear ho4 hk4 hf4
        go_wp2
        go_roundw
        case rel => exact ⟨6 + 1, _, by omega, by go_num, rfl, by have := Hg4.out; rw [← HE.out] at this; exact this⟩
        case measure => simp [intOf]
      ·
        obtain rfl : K = 0 := by omega
        have Hf := Lib.hid hf; clear hf; have Hrow := Lib.hid hrow; clear hrow; have HE := Lib.hid hE; clear hE
        go_wp2_with (at_builtin; refine wpList_append_row rfl (.tmp 9) (.tmp 17) 31 rfl 0 5 i0 _ 1 1 Tryd.underlying31 hi hi0 hi1 hi2 rfl (by decide) (.slice av' E.length capv') E.length _ rfl (Hrow.out.alloc _) _ 1 _ rfl (Reads.lit _ _ _ _ _ rfl) (by simp [Value.oneCell']) (by unfold maxLen; omega) (by omega) (by omega) ?_)
        intro v4 w4 ho4 hk4 hf4
        have hg4 := Hf.out.app rfl rfl ho4 hk4 hf4
        have Hg4 := Lib.hid hg4; clear hg4
        clear ho4 hk4 hf4
        go_wp2
        go_roundw
        case rel => exact ⟨7 + 1, _, by omega, by go_num, rfl, by have := Hg4.out; rw [← HE.out] at this; exact this⟩
        case measure => simp [intOf]
    · obtain rfl : j = 8 := by omega
      have hK' : K = -1 := by omega
      subst hK'
      rw [List.take_of_length_le (by rw [eight_length]; omega)] at hE
      have Hf := Lib.hid hf; clear hf; have Hrow := Lib.hid hrow; clear hrow; have HE := Lib.hid hE; clear hE
      go_wp2
      go_ret
      exact ⟨_, rfl, by rw [HE.out]; exact Hf.out⟩
set_option maxRecDepth 100000 in
set_option maxHeartbeats 800000 in
theorem helpTake_at {w : World} {ad : Option Addr} {cap a p : Nat} {B : List Int} (hr : Reads w 1 (.slice ad B.length cap) B.length (B.flatMap u8c)) (hB : ∀ z ∈ B, 0 ≤ z ∧ z ≤ 255) (hl : B.length ≤ 1000000) (ha : 8 * p = a) (hp : a + 8 ≤ B.length) {z : Int} (hz : numAt B p = z) :
    Calls Tryd.prog 36 #[.slice ad B.length cap, .int .i64 (a : Int)] w fun e w' => e = .returned (.int .i64 z) ∧ w = w' := by
  obtain ⟨D, hD⟩ : ∃ D, (B.drop a).take 8 = D := ⟨_, rfl⟩
  have hDl : D.length = 8 := by rw [← hD, List.length_take, List.length_drop]; omega
  have hDg : ∀ (i : Nat) (z : Int), D[i]? = some z → B[a + i]? = some z ∧ 0 ≤ z ∧ z ≤ 255 := fun i z hz => by
    have hi := lt_of_get hz
    rw [← hD, List.getElem?_take_of_lt (by omega), List.getElem?_drop] at hz
    exact ⟨hz, hB z (List.mem_of_getElem? hz)⟩
  have hnum : IntKind.i64.wrap (IntKind.u64.wrap (poly (D.take 8))) = z := by
    rw [i64_of_u64, ← hz]; unfold numAt numOf; rw [ha, hD, List.take_of_length_le (by omega)]
  have Hr := Lib.hid hr; clear hr; have HB := Lib.hid hB; clear hB; have HD := Lib.hid hD; clear hD; have HDl := Lib.hid hDl; clear hDl; have HDg := Lib.hid hDg; clear hDg; have Hnum := Lib.hid hnum; clear hnum; have Hz := Lib.hid hz; clear hz
  go_enter Tryd.func36, Tryd.ntmps36
  go_wp2
  go_loop [5, 6] (fun v q => ∃ i : Nat, i ≤ 8 ∧ q = .int .i64 (i : Nat) ∧ v = .int .u64 (IntKind.u64.wrap (poly (D.take i)))) (fun _ q => (8 - intOf q).toNat)
  case atStart => exact ⟨0, Nat.zero_le _, rfl, rfl⟩
  case round =>
    obtain ⟨i, hi, rfl, rfl⟩ := hrel
    by_cases hi8 : i < 8
    · obtain ⟨z, hz⟩ := get_some (L := D) (k := i) (by rw [HDl.out]; omega)
      obtain ⟨hz', hz0, hz1⟩ := HDg.out i z hz
      obtain ⟨g, o, rfl, x0⟩ := Hr.out.int hz'
      have hz255 : z < 256 := by omega
      have hsn := num_stepU (D.take i) z hz0 hz255
      rw [← take_snoc' hz] at hsn
      obtain ⟨V, hV⟩ : ∃ V, IntKind.u64.wrap (poly (D.take i)) = V := ⟨_, rfl⟩
      rw [hV] at hsn ⊢
      have hw1 : IntKind.i64.wrap ((a : Int) + (i : Int)) = (a : Int) + (i : Int) := IntWalk.i64_in _ (by omega)
      have hai : ((a : Int) + (i : Int)).toNat = a + i := by omega
      have hai0 : (0 : Int) ≤ (a : Int) + (i : Int) := by omega
      have hai1 : (a : Int) + (i : Int) < (B.length : Int) := by omega
      have Hz := Lib.hid hz; clear hz; have Hsn := Lib.hid hsn; clear hsn; have HV := Lib.hid hV; clear hV; have Hz' := Lib.hid hz'; clear hz'
      go_wp2
      go_round
      case rel => exact ⟨i + 1, by omega, by go_num, by rw [← Hsn.out]⟩
      case measure => simp [intOf]; omega
    · obtain rfl : i = 8 := by omega
      go_wp2
      go_ret
      exact ⟨by rw [← Hnum.out, IntWalk.i64_left]; rfl, rfl⟩
end Go.Proofs.YthokcmbgamanbaaDoor
