/- The walks of the page layer: numbers as bytes. -/
import Derived.Test.YthokcmbgamanbaaDoorPagePlain
import Derived.Test.YthokcmbgamanbaaDoorOwn
namespace Go.Proofs.YthokcmbgamanbaaDoor
open Go.RowKit
/-- A row of bytes that has grown: what stands in it now; what else was there stays. -/
structure Grown (w w' : World) (v v' : Value) (B : List Int) : Prop where
  row : w'.ownsRow 0 5 1 v' B.length (B.flatMap u8c)
  kp : Keeps (fun k => v.ownBlock = some k) w w'
  nw : v'.ownBlock = v.ownBlock ∨ ∃ g, v'.ownBlock = some g ∧ w.heap.size ≤ g
theorem Grown.refl {w : World} {v : Value} {B : List Int} (h : w.ownsRow 0 5 1 v B.length (B.flatMap u8c)) : Grown w w v v B := ⟨h, Keeps.refl _ _, .inl rfl⟩
theorem Grown.app {w wr w4 : World} {v v' v4 : Value} {B : List Int} {z : Int} {o : Obj} {xs : List Value} {n : Nat} (h : Grown w wr v v' B) (hx : xs = B.flatMap u8c ++ [.int .u8 z]) (hn : n = B.length + 1) (ho : w4.ownsRow 0 5 1 v4 n xs) (hk : Keeps (fun k => v'.ownBlock = some k) (wr.alloc o) w4) (hf : v4.ownBlock = v'.ownBlock ∨ ∃ g, v4.ownBlock = some g ∧ wr.heap.size + 1 ≤ g) : Grown w w4 v v4 (B ++ [z]) := by
  subst hx hn
  have hs := h.kp.size
  have hk' : Keeps (fun k => v'.ownBlock = some k) wr w4 := (Keeps.alloc _ _).trans (hk.mono fun _ _ h => .inl h)
  refine ⟨by simpa [List.flatMap_append, u8c] using ho, h.kp.trans (hk'.mono fun k _ hk => ?_), ?_⟩
  · rcases h.nw with e | ⟨g, hg, hh⟩
    · left; rw [← e]; exact hk
    · right; rw [hg] at hk; simp only [Option.some.injEq] at hk; omega
  · rcases hf with e | ⟨g, hg, hh⟩
    · rcases h.nw with e' | ⟨g, hg, hh⟩
      · left; rw [e, e']
      · right; exact ⟨g, by rw [e, hg], hh⟩
    · right; exact ⟨g, hg, by omega⟩
theorem Grown.reads {w w' : World} {v v' x : Value} {B : List Int} {size m : Nat} {news : List Value} (h : Grown w w' v v' B) (hr : Reads w size x m news) (hap : ∀ g, x.ownBlock = some g → v.ownBlock ≠ some g) : Reads w' size x m news :=
  hr.keeps h.kp fun g hg hv => hap g hg hv
theorem u8_wrap (z : Int) : IntKind.u8.wrap z = z % 256 := by simp [IntKind.wrap, IntKind.signed, IntKind.bits]
theorem eight_take0 (x : Int) : (eight x).take 1 = (eight x).take 0 ++ [x / 72057594037927936 % 256] := rfl
set_option maxRecDepth 100000 in
set_option maxHeartbeats 3200000 in
theorem widePut_any (v : Value) (B : List Int) (ad : Option Addr) (cap : Nat) (L : List Int) (w : World) (ho : w.ownsRow 0 5 1 v B.length (B.flatMap u8c)) (hr : Reads w 1 (.slice ad L.length cap) L.length (L.flatMap i64c))
    (hap : ∀ g, (Value.slice ad L.length cap).ownBlock = some g → v.ownBlock ≠ some g) (hl : B.length + 8 * L.length ≤ 1000000) :
    Calls Tryd.prog 22 #[v, .slice ad L.length cap] w fun e w' => ∃ v', e = .returned v' ∧ Grown w w' v v' (B ++ packN L) := by
  obtain ⟨i0, hi, hi0, hi1, hi2⟩ := info_parts info_tByte
  obtain ⟨av, capv, rfl, hcv, _⟩ := ownsRow_shape ho
  have hgr := Grown.refl ho
  have Ho := Lib.hid ho; clear ho; have Hr := Lib.hid hr; clear hr; have Hap := Lib.hid hap; clear hap; have Hgr := Lib.hid hgr; clear hgr
  go_enter Tryd.func22, Tryd.ntmps22
  go_wp2
  go_loopw [0, 10] (fun a c wr => ∃ (j : Nat) (va : Value), j ≤ L.length ∧ c = .int .i64 (j : Nat) ∧ a = va ∧ Grown w wr (.slice av B.length capv) va (B ++ packN (L.take j))) (fun _ c _ => L.length - (intOf c).toNat)
  case atStart => exact ⟨0, _, Nat.zero_le _, rfl, rfl, by simpa [packN] using Hgr.out⟩
  case round =>
    obtain ⟨j, va, hj, rfl, rfl, hg⟩ := hrel
    by_cases hjl : j < L.length
    · obtain ⟨x, hx⟩ := get_some hjl
      obtain ⟨g, o, rfl, x0⟩ := (hg.reads Hr.out Hap.out).int hx
      obtain ⟨C, hC⟩ : ∃ C, B ++ packN (L.take j) = C := ⟨_, rfl⟩
      have hCl : C.length ≤ 999992 := by rw [← hC, List.length_append, packN_length, List.length_take]; omega
      have hnx : B ++ packN (L.take (j + 1)) = C ++ eight x := by rw [take_snoc' hx, packN_append, ← List.append_assoc, hC]; simp [packN]
      rw [hC] at hg
      have Hx := Lib.hid hx; clear hx; have Hg := Lib.hid hg; clear hg; have HC := Lib.hid hC; clear hC; have Hnx := Lib.hid hnx; clear hnx
      go_wp2
      go_loopw [0, 7] (fun a c wr => ∃ (i : Nat) (va : Value), i ≤ 8 ∧ c = .int .i64 (56 - 8 * (i : Int)) ∧ a = va ∧ Grown w wr (.slice av B.length capv) va (C ++ (eight x).take i)) (fun _ c _ => (intOf c + 8).toNat)
      case atStart => exact ⟨0, _, Nat.zero_le _, rfl, rfl, by simpa using Hg.out⟩
      case round =>
        obtain ⟨i, va, hi8, rfl, rfl, hg⟩ := hrel
        obtain ⟨K, hK⟩ : ∃ K : Int, 56 - 8 * (i : Int) = K := ⟨_, rfl⟩
        rw [hK]
        have hrow := hg.row
        have hEl : (C ++ (eight x).take i).length ≤ 1000000 := by rw [List.length_append, List.length_take, eight_length]; omega
        obtain ⟨av', capv', rfl, hcv', _⟩ := ownsRow_shape hrow
        obtain ⟨E, hE⟩ : ∃ E, C ++ (eight x).take i = E := ⟨_, rfl⟩
        rw [hE] at hg hrow hEl hcv' ⊢
        by_cases hi7 : i < 8
        · rcases (show i = 0 ∨ i = 1 ∨ i = 2 ∨ i = 3 ∨ i = 4 ∨ i = 5 ∨ i = 6 ∨ i = 7 by omega) with rfl | rfl | rfl | rfl | rfl | rfl | rfl | rfl
          ·
            obtain rfl : K = 56 := by omega
            have Hg := Lib.hid hg; clear hg; have Hrow := Lib.hid hrow; clear hrow; have HE := Lib.hid hE; clear hE
            go_wp2_with (at_builtin; refine wpList_append_row rfl (.tmp 18) (.tmp 23) 31 rfl 0 5 i0 _ 1 1 Tryd.underlying31 hi hi0 hi1 hi2 rfl (by decide) (.slice av' E.length capv') E.length _ rfl (Hrow.out.alloc _) _ 1 _ rfl (Reads.lit _ _ _ _ _ rfl) (by simp [Value.oneCell']) (by unfold maxLen; omega) (by omega) (by omega) ?_)
            intro v4 w4 ho4 hk4 hf4
            have hg4 := Hg.out.app rfl rfl ho4 hk4 hf4
            have Hg4 := Lib.hid hg4; clear hg4
            clear ho4 hk4 hf4
            go_wp2
            go_roundw
            case rel => exact ⟨0 + 1, _, by omega, by go_num, rfl, by have := Hg4.out; rw [← HE.out, List.append_assoc] at this; first | exact this | (simp at this ⊢; exact this)⟩
            case measure => simp [intOf]
          ·
            obtain rfl : K = 48 := by omega
            have Hg := Lib.hid hg; clear hg; have Hrow := Lib.hid hrow; clear hrow; have HE := Lib.hid hE; clear hE
            go_wp2_with (at_builtin; refine wpList_append_row rfl (.tmp 18) (.tmp 23) 31 rfl 0 5 i0 _ 1 1 Tryd.underlying31 hi hi0 hi1 hi2 rfl (by decide) (.slice av' E.length capv') E.length _ rfl (Hrow.out.alloc _) _ 1 _ rfl (Reads.lit _ _ _ _ _ rfl) (by simp [Value.oneCell']) (by unfold maxLen; omega) (by omega) (by omega) ?_)
            intro v4 w4 ho4 hk4 hf4
            have hg4 := Hg.out.app rfl rfl ho4 hk4 hf4
            have Hg4 := Lib.hid hg4; clear hg4
            clear ho4 hk4 hf4
            go_wp2
            go_roundw
            case rel => exact ⟨1 + 1, _, by omega, by go_num, rfl, by have := Hg4.out; rw [← HE.out, List.append_assoc] at this; first | exact this | (simp at this ⊢; exact this)⟩
            case measure => simp [intOf]
          ·
            obtain rfl : K = 40 := by omega
            have Hg := Lib.hid hg; clear hg; have Hrow := Lib.hid hrow; clear hrow; have HE := Lib.hid hE; clear hE
            go_wp2_with (at_builtin; refine wpList_append_row rfl (.tmp 18) (.tmp 23) 31 rfl 0 5 i0 _ 1 1 Tryd.underlying31 hi hi0 hi1 hi2 rfl (by decide) (.slice av' E.length capv') E.length _ rfl (Hrow.out.alloc _) _ 1 _ rfl (Reads.lit _ _ _ _ _ rfl) (by simp [Value.oneCell']) (by unfold maxLen; omega) (by omega) (by omega) ?_)
            intro v4 w4 ho4 hk4 hf4
            have hg4 := Hg.out.app rfl rfl ho4 hk4 hf4
            have Hg4 := Lib.hid hg4; clear hg4
            clear ho4 hk4 hf4
            go_wp2
            go_roundw
            case rel => exact ⟨2 + 1, _, by omega, by go_num, rfl, by have := Hg4.out; rw [← HE.out, List.append_assoc] at this; first | exact this | (simp at this ⊢; exact this)⟩
            case measure => simp [intOf]
          ·
            obtain rfl : K = 32 := by omega
            have Hg := Lib.hid hg; clear hg; have Hrow := Lib.hid hrow; clear hrow; have HE := Lib.hid hE; clear hE
            go_wp2_with (at_builtin; refine wpList_append_row rfl (.tmp 18) (.tmp 23) 31 rfl 0 5 i0 _ 1 1 Tryd.underlying31 hi hi0 hi1 hi2 rfl (by decide) (.slice av' E.length capv') E.length _ rfl (Hrow.out.alloc _) _ 1 _ rfl (Reads.lit _ _ _ _ _ rfl) (by simp [Value.oneCell']) (by unfold maxLen; omega) (by omega) (by omega) ?_)
            intro v4 w4 ho4 hk4 hf4
            have hg4 := Hg.out.app rfl rfl ho4 hk4 hf4
            have Hg4 := Lib.hid hg4; clear hg4
            clear ho4 hk4 hf4
            go_wp2
            go_roundw
            case rel => exact ⟨3 + 1, _, by omega, by go_num, rfl, by have := Hg4.out; rw [← HE.out, List.append_assoc] at this; first | exact this | (simp at this ⊢; exact this)⟩
            case measure => simp [intOf]
          ·
            obtain rfl : K = 24 := by omega
            have Hg := Lib.hid hg; clear hg; have Hrow := Lib.hid hrow; clear hrow; have HE := Lib.hid hE; clear hE
            go_wp2_with (at_builtin; refine wpList_append_row rfl (.tmp 18) (.tmp 23) 31 rfl 0 5 i0 _ 1 1 Tryd.underlying31 hi hi0 hi1 hi2 rfl (by decide) (.slice av' E.length capv') E.length _ rfl (Hrow.out.alloc _) _ 1 _ rfl (Reads.lit _ _ _ _ _ rfl) (by simp [Value.oneCell']) (by unfold maxLen; omega) (by omega) (by omega) ?_)
            intro v4 w4 ho4 hk4 hf4
            have hg4 := Hg.out.app rfl rfl ho4 hk4 hf4
            have Hg4 := Lib.hid hg4; clear hg4
            clear ho4 hk4 hf4
            go_wp2
            go_roundw
            case rel => exact ⟨4 + 1, _, by omega, by go_num, rfl, by have := Hg4.out; rw [← HE.out, List.append_assoc] at this; first | exact this | (simp at this ⊢; exact this)⟩
            case measure => simp [intOf]
          ·
            obtain rfl : K = 16 := by omega
            have Hg := Lib.hid hg; clear hg; have Hrow := Lib.hid hrow; clear hrow; have HE := Lib.hid hE; clear hE
            go_wp2_with (at_builtin; refine wpList_append_row rfl (.tmp 18) (.tmp 23) 31 rfl 0 5 i0 _ 1 1 Tryd.underlying31 hi hi0 hi1 hi2 rfl (by decide) (.slice av' E.length capv') E.length _ rfl (Hrow.out.alloc _) _ 1 _ rfl (Reads.lit _ _ _ _ _ rfl) (by simp [Value.oneCell']) (by unfold maxLen; omega) (by omega) (by omega) ?_)
            intro v4 w4 ho4 hk4 hf4
            have hg4 := Hg.out.app rfl rfl ho4 hk4 hf4
            have Hg4 := Lib.hid hg4; clear hg4
            clear ho4 hk4 hf4
            go_wp2
            go_roundw
            case rel => exact ⟨5 + 1, _, by omega, by go_num, rfl, by have := Hg4.out; rw [← HE.out, List.append_assoc] at this; first | exact this | (simp at this ⊢; exact this)⟩
            case measure => simp [intOf]
          ·
            obtain rfl : K = 8 := by omega
            have Hg := Lib.hid hg; clear hg; have Hrow := Lib.hid hrow; clear hrow; have HE := Lib.hid hE; clear hE
            go_wp2_with (at_builtin; refine wpList_append_row rfl (.tmp 18) (.tmp 23) 31 rfl 0 5 i0 _ 1 1 Tryd.underlying31 hi hi0 hi1 hi2 rfl (by decide) (.slice av' E.length capv') E.length _ rfl (Hrow.out.alloc _) _ 1 _ rfl (Reads.lit _ _ _ _ _ rfl) (by simp [Value.oneCell']) (by unfold maxLen; omega) (by omega) (by omega) ?_)
            intro v4 w4 ho4 hk4 hf4
            have hg4 := Hg.out.app rfl rfl ho4 hk4 hf4
            have Hg4 := Lib.hid hg4; clear hg4
            clear ho4 hk4 hf4
            go_wp2
            go_roundw
            case rel => exact ⟨6 + 1, _, by omega, by go_num, rfl, by have := Hg4.out; rw [← HE.out, List.append_assoc] at this; first | exact this | (simp at this ⊢; exact this)⟩
            case measure => simp [intOf]
          ·
            obtain rfl : K = 0 := by omega
            have Hg := Lib.hid hg; clear hg; have Hrow := Lib.hid hrow; clear hrow; have HE := Lib.hid hE; clear hE
            go_wp2_with (at_builtin; refine wpList_append_row rfl (.tmp 18) (.tmp 23) 31 rfl 0 5 i0 _ 1 1 Tryd.underlying31 hi hi0 hi1 hi2 rfl (by decide) (.slice av' E.length capv') E.length _ rfl (Hrow.out.alloc _) _ 1 _ rfl (Reads.lit _ _ _ _ _ rfl) (by simp [Value.oneCell']) (by unfold maxLen; omega) (by omega) (by omega) ?_)
            intro v4 w4 ho4 hk4 hf4
            have hg4 := Hg.out.app rfl rfl ho4 hk4 hf4
            have Hg4 := Lib.hid hg4; clear hg4
            clear ho4 hk4 hf4
            go_wp2
            go_roundw
            case rel => exact ⟨7 + 1, _, by omega, by go_num, rfl, by have := Hg4.out; rw [← HE.out, List.append_assoc] at this; first | exact this | (simp at this ⊢; exact this)⟩
            case measure => simp [intOf]
        · obtain rfl : i = 8 := by omega
          have hK' : K = -8 := by omega
          subst hK'
          rw [List.take_of_length_le (by rw [eight_length]; omega)] at hE
          have Hg := Lib.hid hg; clear hg; have Hrow := Lib.hid hrow; clear hrow; have HE := Lib.hid hE; clear hE
          go_wp2
          go_roundw
          case rel => exact ⟨j + 1, _, by omega, by go_num, rfl, by rw [Hnx.out, HE.out]; exact Hg.out⟩
          case measure => simp [intOf]; omega
    · obtain rfl : j = L.length := by omega
      rw [List.take_length] at hg
      have Hg := Lib.hid hg; clear hg
      go_wp2
      go_ret
      exact ⟨_, rfl, Hg.out⟩
end Go.Proofs.YthokcmbgamanbaaDoor
