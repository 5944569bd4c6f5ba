/-
  ReplayBack: for every input the law returns true, and each argument reads behind the call as it read before. No condition.
-/
import Derived.Test.YthcmpcekmkioaaaB10
namespace Go.Proofs.Ythcmpcekmkioaaa
open Go.RowKit
theorem and_one (x : Int) (h0 : 0 ≤ x) (h1 : x < 18446744073709551616) : bits .and .u64 x 1 = x % 2 := by
 obtain ⟨m, rfl⟩ := Int.eq_ofNat_of_zero_le h0
 have hm : ((m : Int) % 18446744073709551616).toNat = m := by omega
 have hand : m &&& 1 = m % 2 := Nat.and_two_pow_sub_one_eq_mod m 1
 simp only [bits, show IntKind.u64.bits = 64 from rfl, BitVec.toNat_and, BitVec.toNat_ofInt]
 simp only [show ((2 ^ 64 : Nat) : Int) = 18446744073709551616 from rfl]
 rw [hm, show ((1 : Int) % 18446744073709551616).toNat = 1 by decide, hand]
 simp [IntKind.wrap, IntKind.signed, IntKind.bits]
 omega
theorem or_two (a c : Int) (h0 : 0 ≤ a) (h1 : a * 2 < 18446744073709551616) (c0 : 0 ≤ c) (c1 : c < 2) : bits .or .u64 (a * 2) c = a * 2 + c := by
 have h := or_pow 1 a c h0 (by simpa using h1) c0 (by simpa using c1) (by omega)
 rw [show ((2 ^ 1 : Nat) : Int) = 2 by rfl] at h
 rw [h]
 omega
theorem half_step (b : Int) (k : Nat) : b / 2 ^ k = 2 * (b / 2 ^ (k + 1)) + b / 2 ^ k % 2 := by
 have h0 : (0 : Int) ≤ 2 ^ k := Int.pow_nonneg (by decide)
 rw [Int.pow_succ, ← Int.ediv_ediv_of_nonneg h0]
 omega
theorem u64w {x : Int} (h0 : 0 ≤ x) (h1 : x < 18446744073709551616) : IntKind.u64.wrap x = x := by rw [IntKind.wrap_u64]; omega
set_option maxRecDepth 100000 in
set_option maxHeartbeats 1600000 in
theorem r01Mul_any (a b : Int) (a0 : 0 ≤ a) (a1 : a < 18446744073709551616) (b0 : 0 ≤ b) (b1 : b < 18446744073709551616) (w : World) :
  Calls Try.prog 49 #[.int .u64 a, .int .u64 b] w fun e w' => e = .returned (.tuple #[.int .u64 (a * b / 18446744073709551616), .int .u64 (a * b % 18446744073709551616)]) ∧ w = w' := by
 go_enter Try.func49, Try.ntmps49
 go_wp2
 go_loopw [6, 7, 8] (fun x y z wx => ∃ (k : Nat) (h l : Int), x = .int .u64 h ∧ y = .int .u64 l ∧ z = .int .i64 ((k : Int) - 1) ∧ k ≤ 64 ∧ 0 ≤ h ∧ 0 ≤ l ∧ l < 18446744073709551616 ∧ h * 18446744073709551616 + l = a * (b / 2 ^ k) ∧ w = wx) (fun _ _ z _ => (intOf z + 1).toNat)
 case atStart =>
  refine ⟨64, 0, 0, rfl, rfl, rfl, by decide, by decide, by decide, by decide, ?_, rfl⟩
  have : b / 2 ^ 64 = 0 := by
   rw [show (2 : Int) ^ 64 = 18446744073709551616 by rfl]
   omega
  rw [this]
  simp
 case round =>
  obtain ⟨k, h, l, rfl, rfl, rfl, hk, h0, l0, l1, hm, hkp⟩ := hrel
  have hq0 : 0 ≤ b / 2 ^ k := Int.ediv_nonneg b0 (Int.pow_nonneg (by decide))
  have hq1 : b / 2 ^ k ≤ b := Int.ediv_le_self _ b0
  rcases k with _ | k
  ·have hz : b / 2 ^ 0 = b := by rw [Int.pow_zero, Int.ediv_one]
   rw [hz] at hm
   have e1 : a * b / 18446744073709551616 = h := by omega
   have e2 : a * b % 18446744073709551616 = l := by omega
   have hneg : ¬ (0 : Int) ≤ ((0 : Nat) : Int) - 1 := by omega
   obtain ⟨Hm, Hkp, Hz, E1, E2⟩ := hid5 hm hkp hz e1 e2; clear e2 e1 hz hkp hm
   go_wp2
   exact bodyPost_ret (v := .tuple #[.int .u64 h, .int .u64 l]) (by simp [results, Try.results49, go_sem]) rfl ⟨by rw [E1.out, E2.out], Hkp.out⟩
  ·have hd := half_step b k
   have p0 : 0 ≤ b / 2 ^ k := Int.ediv_nonneg b0 (Int.pow_nonneg (by decide))
   have p1 : b / 2 ^ k ≤ b := Int.ediv_le_self _ b0
   obtain ⟨c, hc⟩ : ∃ c, b / 2 ^ k % 2 = c := ⟨_, rfl⟩
   have hand : bits .and .u64 (b / 2 ^ k) 1 = c := by rw [and_one _ p0 (by omega)]; exact hc
   rw [hc] at hd
   obtain ⟨q, hq⟩ : ∃ q, b / 2 ^ (k + 1) = q := ⟨_, rfl⟩
   rw [hq] at hd hm hq0 hq1
   have hbd : a * q ≤ a * 9223372036854775807 := Int.mul_le_mul_of_nonneg_left (by omega) a0
   have hmul : a * (2 * q + c) = 2 * (a * q) + a * c := by rw [Int.mul_add, ← Int.mul_assoc, Int.mul_comm a 2, Int.mul_assoc]
   have hn2 : 0 ≤ a * q := Int.mul_nonneg a0 hq0
   have hh : h < 9223372036854775808 := by omega
   have e1 : IntKind.u64.wrap (h * 2) = h * 2 := u64w (by omega) (by omega)
   have e2 : bits .or .u64 (h * 2) (l / 9223372036854775808) = h * 2 + l / 9223372036854775808 := or_two _ _ h0 (by omega) (by omega) (by omega)
   obtain ⟨L, hL⟩ : ∃ L, IntKind.u64.wrap (l * 2) = L := ⟨_, rfl⟩
   have hL2 : L = l * 2 % 18446744073709551616 := by rw [← hL, IntKind.wrap_u64]
   obtain ⟨H, hH⟩ : ∃ H, h * 2 + l / 9223372036854775808 = H := ⟨_, rfl⟩
   rw [hH] at e2
   obtain ⟨M, hM⟩ : ∃ M, IntKind.u64.wrap (L + a) = M := ⟨_, rfl⟩
   have hM2 : M = (L + a) % 18446744073709551616 := by rw [← hM, IntKind.wrap_u64]
   have hki : ((k : Nat) : Int) + 1 - 1 = k := by omega
   have hge : (0 : Int) ≤ k := by omega
   have hc2 : c = 0 ∨ c = 1 := by omega
   have hV : H * 18446744073709551616 + L = 2 * (a * q) := by omega
   have H0 : 0 ≤ H := by omega
   have hwH : IntKind.u64.wrap (H + 1) = H + 1 := u64w (by omega) (by omega)
   have hw2 : w = wr := hkp
   rcases hc2 with rfl | rfl
   ·have hfin : H * 18446744073709551616 + L = a * (b / 2 ^ k) := by rw [hd, hmul, hV]; omega
    have L0 : 0 ≤ L := by omega
    have L1 : L < 18446744073709551616 := by omega
    obtain ⟨Hm, Hkp, Hd, Hc, Hq, Hbd, Hmul, HL2, HH⟩ := hid9 hm hkp hd hc hq hbd hmul hL2 hH; clear hH hL2 hmul hbd hq hc hd hkp hm; obtain ⟨HM2, HV, Hw2, Hfin, Hn2, Hq0, Hq1, Hh⟩ := hid8 hM2 hV hw2 hfin hn2 hq0 hq1 hh; clear hh hq1 hq0 hn2 hfin hw2 hV hM2
    go_wp2
    go_roundw
    case rel => exact ⟨k, H, L, rfl, rfl, rfl, by omega, H0, L0, L1, Hfin.out, Hw2.out⟩
    case measure => simp [intOf]
   ·by_cases hlt : M < L
    ·have hfin : (H + 1) * 18446744073709551616 + M = a * (b / 2 ^ k) := by rw [hd, hmul, Int.add_mul, hV.symm] at *; omega
     have M0 : 0 ≤ M := by omega
     have M1 : M < 18446744073709551616 := by omega
     obtain ⟨Hm, Hkp, Hd, Hc, Hq, Hbd, Hmul, HL2, HH⟩ := hid9 hm hkp hd hc hq hbd hmul hL2 hH; clear hH hL2 hmul hbd hq hc hd hkp hm; obtain ⟨HM2, HV, Hw2, Hfin, Hn2, Hq0, Hq1, Hh⟩ := hid8 hM2 hV hw2 hfin hn2 hq0 hq1 hh; clear hh hq1 hq0 hn2 hfin hw2 hV hM2
     go_wp2
     go_roundw
     case rel => exact ⟨k, H + 1, M, rfl, rfl, rfl, by omega, by omega, M0, M1, Hfin.out, Hw2.out⟩
     case measure => simp [intOf]
    ·have hfin : H * 18446744073709551616 + M = a * (b / 2 ^ k) := by rw [hd, hmul]; omega
     have M0 : 0 ≤ M := by omega
     have M1 : M < 18446744073709551616 := by omega
     obtain ⟨Hm, Hkp, Hd, Hc, Hq, Hbd, Hmul, HL2, HH⟩ := hid9 hm hkp hd hc hq hbd hmul hL2 hH; clear hH hL2 hmul hbd hq hc hd hkp hm; obtain ⟨HM2, HV, Hw2, Hfin, Hn2, Hq0, Hq1, Hh⟩ := hid8 hM2 hV hw2 hfin hn2 hq0 hq1 hh; clear hh hq1 hq0 hn2 hfin hw2 hV hM2
     go_wp2
     go_roundw
     case rel => exact ⟨k, H, M, rfl, rfl, rfl, by omega, H0, M0, M1, Hfin.out, Hw2.out⟩
     case measure => simp [intOf]
theorem low_bit (hi lo : Int) (k : Nat) (hk : k < 64) (h0 : 0 ≤ hi) (l0 : 0 ≤ lo) : (hi * 18446744073709551616 + lo) / 2 ^ k % 2 = lo / 2 ^ k % 2 := by
 obtain ⟨j, hj⟩ : ∃ j, 64 = k + 1 + j := ⟨64 - k - 1, by omega⟩
 have hp : (18446744073709551616 : Int) = 2 ^ k * (2 * 2 ^ j) := by
  rw [show (18446744073709551616 : Int) = 2 ^ 64 by rfl, hj, Int.pow_add, Int.pow_succ, Int.mul_assoc]
 have hpk : (2 : Int) ^ k ≠ 0 := Int.ne_of_gt (Int.pow_pos (by decide))
 rw [hp, show hi * (2 ^ k * (2 * 2 ^ j)) + lo = lo + 2 ^ k * (hi * (2 * 2 ^ j)) by rw [Int.add_comm, Int.mul_left_comm], Int.add_mul_ediv_left _ _ hpk, show hi * (2 * 2 ^ j) = 2 * (hi * 2 ^ j) by rw [Int.mul_left_comm]]
 omega
set_option maxRecDepth 100000 in
set_option maxHeartbeats 1600000 in
theorem r01Even_any (hi lo D N : Int) (hD : 0 < D) (hD2 : D < 4294967296) (hN : hi * 18446744073709551616 + lo = N) (h0 : 0 ≤ hi) (h1 : hi < D) (l0 : 0 ≤ lo) (l1 : lo < 18446744073709551616) (hq : N / D < 1000000000000000000) (w : World) :
  Calls Try.prog 36 #[.int .u64 hi, .int .u64 lo, .int .u64 D] w fun e w' => e = .returned (.tuple #[.int .u64 (evenI N D), .bool true]) ∧ Keeps (fun _ => False) w w' := by
 have hDI : (D == 0) = false := beq_eq_false_iff_ne.2 (by omega)
 have hge : decide (D ≤ hi) = false := by rw [decide_eq_false_iff_not]; omega
 have hND : N < 1000000000000000000 * D := by
  have := Int.lt_mul_ediv_self_add (x := N) (k := D) hD
  have h3 : D * (N / D) + D ≤ D * 1000000000000000000 := by
   have : D * (N / D + 1) ≤ D * 1000000000000000000 := Int.mul_le_mul_of_nonneg_left (by omega) (by omega)
   rw [Int.mul_add, Int.mul_one] at this
   exact this
  omega
 obtain ⟨Hq, HND⟩ := hid2 hq hND; clear hND hq
 go_enter Try.func36, Try.ntmps36
 go_wp2
 go_loopw [8, 9, 10] (fun x y z wx => ∃ (k : Nat) (q r : Int), x = .int .u64 q ∧ y = .int .u64 r ∧ z = .int .i64 ((k : Int) - 1) ∧ k ≤ 64 ∧ 0 ≤ q ∧ 0 ≤ r ∧ r < D ∧ q * D + r = N / 2 ^ k ∧ Keeps (fun _ => False) w wx) (fun _ _ z _ => (intOf z + 1).toNat)
 case atStart =>
  refine ⟨64, 0, hi, rfl, rfl, rfl, by decide, by decide, h0, h1, ?_, Keeps.refl _ _⟩
  rw [show (2 : Int) ^ 64 = 18446744073709551616 by rfl]
  omega
 case round =>
  obtain ⟨k, q, r, rfl, rfl, rfl, hk, q0, r0, r1, hm, hkp⟩ := hrel
  rcases k with _ | k
  ·rw [Int.pow_zero, Int.ediv_one] at hm
   have hqN : N / D = q := by
    rw [← hm, Int.add_comm, Int.add_mul_ediv_right _ _ (by omega), Int.ediv_eq_zero_of_lt r0 r1]
    omega
   have hrN : N % D = r := by
    have := Int.mul_ediv_add_emod N D
    rw [hqN, Int.mul_comm] at this
    omega
   obtain ⟨Z, hZ⟩ : ∃ Z, evenI N D = Z := ⟨_, rfl⟩
   have hZ2 := hZ
   unfold evenI at hZ2
   rw [hqN, hrN] at hZ2
   have hq1 := Hq.out
   rw [hqN] at hq1
   have hneg : ¬ (0 : Int) ≤ ((0 : Nat) : Int) - 1 := by omega
   have e1 : IntKind.u64.wrap (D - r) = D - r := u64w (by omega) (by omega)
   have e2 : bits .and .u64 q 1 = q % 2 := and_one _ q0 (by omega)
   have e3 : (q == 18446744073709551615) = false := beq_eq_false_iff_ne.2 (by omega)
   have e4 : IntKind.u64.wrap (q + 1) = q + 1 := u64w (by omega) (by omega)
   rcases Int.lt_trichotomy r (D - r) with c1 | c1 | c1
   ·have c2 : decide (D - r < r) = false := by rw [decide_eq_false_iff_not]; omega
    have c3 : (r == D - r) = false := beq_eq_false_iff_ne.2 (by omega)
    rw [if_pos (by omega)] at hZ2
    obtain ⟨Hm, HqN, HrN, HZ, HZ2, Hkp, HN, Hq1⟩ := hid8 hm hqN hrN hZ hZ2 hkp hN hq1; clear hq1 hN hkp hZ2 hZ hrN hqN hm
    go_wp2
    exact bodyPost_ret (v := .tuple #[.int .u64 (q), .bool true]) (by simp [results, Try.results36, go_sem]) rfl ⟨by rw [HZ.out, ← HZ2.out], Hkp.out⟩
   ·have c2 : decide (D - r < r) = false := by rw [decide_eq_false_iff_not]; omega
    have c3 : (r == D - r) = true := by rw [beq_iff_eq]; exact c1
    rcases (by omega : q % 2 = 0 ∨ q % 2 = 1) with c4 | c4
    ·rw [if_pos (by omega)] at hZ2
     rw [c4] at e2
     clear c4 c1
     obtain ⟨Hm, HqN, HrN, HZ, HZ2, Hkp, HN, Hq1⟩ := hid8 hm hqN hrN hZ hZ2 hkp hN hq1; clear hq1 hN hkp hZ2 hZ hrN hqN hm
     go_wp2
     exact bodyPost_ret (v := .tuple #[.int .u64 (q), .bool true]) (by simp [results, Try.results36, go_sem]) rfl ⟨by rw [HZ.out, ← HZ2.out], Hkp.out⟩
    ·rw [if_neg (by omega)] at hZ2
     rw [c4] at e2
     clear c4 c1
     obtain ⟨Hm, HqN, HrN, HZ, HZ2, Hkp, HN, Hq1⟩ := hid8 hm hqN hrN hZ hZ2 hkp hN hq1; clear hq1 hN hkp hZ2 hZ hrN hqN hm
     go_wp2
     exact bodyPost_ret (v := .tuple #[.int .u64 (q + 1), .bool true]) (by simp [results, Try.results36, go_sem]) rfl ⟨by rw [HZ.out, ← HZ2.out], Hkp.out⟩
   ·have c2 : decide (D - r < r) = true := by rw [decide_eq_true_iff]; omega
    rw [if_neg (by omega)] at hZ2
    obtain ⟨Hm, HqN, HrN, HZ, HZ2, Hkp, HN, Hq1⟩ := hid8 hm hqN hrN hZ hZ2 hkp hN hq1; clear hq1 hN hkp hZ2 hZ hrN hqN hm
    go_wp2
    exact bodyPost_ret (v := .tuple #[.int .u64 (q + 1), .bool true]) (by simp [results, Try.results36, go_sem]) rfl ⟨by rw [HZ.out, ← HZ2.out], Hkp.out⟩
  ·have hd := half_step N k
   have hlb := low_bit hi lo k (by omega) h0 l0
   rw [hN] at hlb
   rw [hlb] at hd
   have p0 : 0 ≤ lo / 2 ^ k := Int.ediv_nonneg l0 (Int.pow_nonneg (by decide))
   have p1 : lo / 2 ^ k ≤ lo := Int.ediv_le_self _ l0
   obtain ⟨c, hc⟩ : ∃ c, lo / 2 ^ k % 2 = c := ⟨_, rfl⟩
   have hand : bits .and .u64 (lo / 2 ^ k) 1 = c := by rw [and_one _ p0 (by omega)]; exact hc
   rw [hc] at hd
   have hc2 : 0 ≤ c ∧ c < 2 := by omega
   have hN2 : N / 2 ^ k ≤ N := Int.ediv_le_self _ (by omega)
   have e1 : IntKind.u64.wrap (r * 2) = r * 2 := u64w (by omega) (by omega)
   have e2 : bits .or .u64 (r * 2) c = r * 2 + c := or_two _ _ r0 (by omega) hc2.1 hc2.2
   have e3 : r / 9223372036854775808 = 0 := by omega
   have hq2 : q < 1000000000000000000 := by
    have h5 : q * D ≤ N := by omega
    have h6 : q * D < 1000000000000000000 * D := by have := HND.out; omega
    exact Int.lt_of_mul_lt_mul_right h6 (by omega)
   have e4 : IntKind.u64.wrap (q * 2) = q * 2 := u64w (by omega) (by omega)
   have e5 : bits .or .u64 (q * 2) 1 = q * 2 + 1 := or_two _ _ q0 (by omega) (by decide) (by decide)
   have hki : ((k : Nat) : Int) + 1 - 1 = k := by omega
   have hge : (0 : Int) ≤ k := by omega
   obtain ⟨R, hR⟩ : ∃ R, r * 2 + c = R := ⟨_, rfl⟩
   rw [hR] at e2
   by_cases hlt : D ≤ R
   ·have hltI : decide (D ≤ R) = true := decide_eq_true hlt
    have e6 : IntKind.u64.wrap (R - D) = R - D := u64w (by omega) (by omega)
    have hfin : (q * 2 + 1) * D + (R - D) = N / 2 ^ k := by rw [hd, ← hm, Int.add_mul, Int.mul_right_comm]; omega
    have b1 : R - D < D := by omega
    have b2 : 0 ≤ R - D := by omega
    obtain ⟨Hm, Hkp, Hd, Hlb, Hc, HN2, HR, Hfin, Hq2⟩ := hid9 hm hkp hd hlb hc hN2 hR hfin hq2; clear hq2 hfin hR hN2 hc hlb hd hkp hm; have HN := Lib.hid hN; clear hN
    go_wp2
    go_roundw
    case rel => exact ⟨k, q * 2 + 1, R - D, rfl, rfl, rfl, by omega, by omega, b2, b1, Hfin.out, Hkp.out⟩
    case measure => simp [intOf]
   ·have hltI : decide (D ≤ R) = false := decide_eq_false hlt
    have hfin : q * 2 * D + R = N / 2 ^ k := by rw [hd, ← hm, Int.mul_right_comm]; omega
    have b1 : R < D := by omega
    have b2 : 0 ≤ R := by omega
    have b3 : 0 ≤ q * 2 := by omega
    obtain ⟨Hm, Hkp, Hd, Hlb, Hc, HN2, HR, Hfin, Hq2⟩ := hid9 hm hkp hd hlb hc hN2 hR hfin hq2; clear hq2 hfin hR hN2 hc hlb hd hkp hm; obtain ⟨HN, Hlt⟩ := hid2 hN hlt; clear hlt hN
    go_wp2
    go_roundw
    case rel => exact ⟨k, q * 2, R, rfl, rfl, rfl, by omega, b3, b2, b1, Hfin.out, Hkp.out⟩
    case measure => simp [intOf]
end Go.Proofs.Ythcmpcekmkioaaa
namespace Go.Proofs.Ythcmpcekmkioaaa
open Go.RowKit
set_option maxRecDepth 100000 in
set_option maxHeartbeats 1600000 in
theorem r13Exact_any (X Y : List Int) (ad1 ad2 : Option Addr) (c1 c2 n : Nat) (w : World) (hr1 : Reads w 1 (.slice ad1 n c1) n (X.flatMap i64c)) (hX : X.length = n) (hr2 : Reads w 1 (.slice ad2 n c2) n (Y.flatMap i64c)) (hY : Y.length = n) (hn : n ≤ 40000)
  (hXb : ∀ x ∈ X, 0 ≤ x ∧ x ≤ 1000000000000000) (hYb : ∀ y ∈ Y, 0 ≤ y ∧ y ≤ 10000000) :
  Calls Try.prog 35 #[.slice ad1 n c1, .slice ad2 n c2] w fun e w' => e = .returned (.tuple #[.int .u64 (dotI X Y / 18446744073709551616), .int .u64 (dotI X Y % 18446744073709551616), .int .i64 0]) ∧ Keeps (fun _ => False) w w' := by
 obtain ⟨R, hR⟩ : ∃ R, dotI X Y = R := ⟨_, rfl⟩
 rw [hR]
 have hnI : (n : Int) ≤ 40000 := by omega
 have hne : ((n : Int) == (n : Int)) = true := by simp
 obtain ⟨Hr1, HX, Hr2, HY, HXb, HYb, HR⟩ := hid7 hr1 hX hr2 hY hXb hYb hR; clear hR hYb hXb hY hr2 hX hr1
 go_enter Try.func35, Try.ntmps35
 go_wp2
 go_loopw [7, 8] (fun x y wx => ∃ k : Nat, x = .bool true ∧ y = .int .i64 (k : Nat) ∧ k ≤ n ∧ Keeps (fun _ => False) w wx) (fun _ y _ => n - (intOf y).toNat)
 case atStart => exact ⟨0, rfl, rfl, Nat.zero_le _, Keeps.refl _ _⟩
 case round =>
  obtain ⟨k, rfl, rfl, hkn, hk⟩ := hrel
  obtain ⟨wq, hwq⟩ : ∃ x, x = wr := ⟨_, rfl⟩
  subst hwq
  by_cases hlt : k < n
  ·have hltI : (k : Int) < (n : Int) := by omega
   obtain ⟨x, hx⟩ := get_some (L := X) (k := k) (by rw [HX.out]; exact hlt)
   obtain ⟨y, hy⟩ := get_some (L := Y) (k := k) (by rw [HY.out]; exact hlt)
   obtain ⟨g1, o1, he1, x0⟩ := (Hr1.out.keeps hk (by simp)).int (k := .i64) hx
   obtain ⟨g2, o2, he2, y0⟩ := (Hr2.out.keeps hk (by simp)).int (k := .i64) hy
   subst he1
   subst he2
   obtain ⟨xb0, xb1⟩ := HXb.out x (List.mem_of_getElem? hx)
   obtain ⟨yb0, yb1⟩ := HYb.out y (List.mem_of_getElem? hy)
   have lx := cell_lt x0
   have ly := cell_lt y0
   obtain ⟨Hk, Hx, Hy⟩ := hid3 hk hx hy; clear hy hx hk
   go_wp2
   go_roundw
   case rel => exact ⟨k + 1, rfl, by go_num, by omega, Hk.out⟩
   case measure => simp [intOf]; omega
  ·obtain rfl : n = k := by omega
   have Hk0 := Lib.hid hk
   clear hk
   go_wp2
   go_loopw [9, 10, 11] (fun x y z wx => ∃ (k : Nat) (N : Int), x = .int .u64 (N / 18446744073709551616) ∧ y = .int .u64 (N % 18446744073709551616) ∧ z = .int .i64 (k : Nat) ∧ k ≤ n ∧ dotI (X.take k) (Y.take k) = N ∧ Keeps (fun _ => False) w wx) (fun _ _ z _ => n - (intOf z).toNat)
   case atStart => exact ⟨0, 0, rfl, rfl, rfl, Nat.zero_le _, rfl, Hk0.out⟩
   case round =>
    obtain ⟨k, N, rfl, rfl, rfl, hkn, hN, hk⟩ := hrel
    have hbd := dotI_bd (X.take k) (Y.take k) (fun x hx => HXb.out x (List.mem_of_mem_take hx)) (fun y hy => HYb.out y (List.mem_of_mem_take hy))
    rw [hN, List.length_take, HX.out] at hbd
    obtain ⟨N0, N1⟩ := hbd
    have N2 : N ≤ 400000000000000000000000000 := by
     have : min k n ≤ 40000 := by omega
     omega
    clear N1
    by_cases hlt : k < n
    ·have hltI : (k : Int) < (n : Int) := by omega
     obtain ⟨x, hx⟩ := get_some (L := X) (k := k) (by rw [HX.out]; exact hlt)
     obtain ⟨y, hy⟩ := get_some (L := Y) (k := k) (by rw [HY.out]; exact hlt)
     obtain ⟨g1, o1, he1, x0⟩ := (Hr1.out.keeps hk (by simp)).int (k := .i64) hx
     obtain ⟨g2, o2, he2, y0⟩ := (Hr2.out.keeps hk (by simp)).int (k := .i64) hy
     subst he1
     subst he2
     have hS : exS g1 (o1 + k) g2 (o2 + k) x y wr.drew := ⟨x0, y0⟩
     have xb := HXb.out x (List.mem_of_getElem? hx)
     have yb := HYb.out y (List.mem_of_getElem? hy)
     have pb := prod_bd xb yb
     have hsn := dotI_take (by rw [HX.out, HY.out]) hx hy
     rw [hN] at hsn
     have hmul := fun W => r01Mul_any x y xb.1 (by omega) yb.1 (by omega) W
     obtain ⟨p, hp⟩ : ∃ p, x * y = p := ⟨_, rfl⟩
     rw [hp] at pb hmul hsn
     have lx := cell_lt x0
     have ly := cell_lt y0
     obtain ⟨A, hA⟩ : ∃ A, p / 18446744073709551616 = A := ⟨_, rfl⟩
     obtain ⟨B, hB⟩ : ∃ B, p % 18446744073709551616 = B := ⟨_, rfl⟩
     obtain ⟨Hi, hHi⟩ : ∃ Hi, N / 18446744073709551616 = Hi := ⟨_, rfl⟩
     obtain ⟨Lo, hLo⟩ : ∃ Lo, N % 18446744073709551616 = Lo := ⟨_, rfl⟩
     rw [hA, hB] at hmul
     rw [hHi, hLo]
     have b1 : 0 ≤ Lo ∧ Lo < 18446744073709551616 := by omega
     have b2 : 0 ≤ B ∧ B < 18446744073709551616 := by omega
     have b3 : 0 ≤ Hi ∧ Hi < 1000000000 := by omega
     have b4 : 0 ≤ A ∧ A < 1000000000 := by omega
     have s1 : IntKind.u64.wrap (Hi + A) = Hi + A := u64w (by omega) (by omega)
     have s2 : IntKind.u64.wrap (Hi + A + 1) = Hi + A + 1 := u64w (by omega) (by omega)
     obtain ⟨M, hM⟩ : ∃ M, IntKind.u64.wrap (Lo + B) = M := ⟨_, rfl⟩
     have hM2 : M = (Lo + B) % 18446744073709551616 := by rw [← hM, IntKind.wrap_u64]
     have hM3 : (N + p) % 18446744073709551616 = M := by omega
     obtain ⟨xb0, xb1⟩ := xb
     obtain ⟨yb0, yb1⟩ := yb
     have q1 : IntKind.u64.wrap x = x := u64w (by omega) (by omega)
     have q2 : IntKind.u64.wrap y = y := u64w (by omega) (by omega)
     by_cases hlo : M < Lo
     ·have hM4 : (N + p) / 18446744073709551616 = Hi + A + 1 := by omega
      obtain ⟨Hk, HN, Hx, Hy, Hsn, Hmul, Hp, HA, HB⟩ := hid9 hk hN hx hy hsn hmul hp hA hB; clear hB hA hp hmul hsn hy hx hN hk; obtain ⟨HHi, HLo, HS, HM2, HM3, HM4⟩ := hid6 hHi hLo hS hM2 hM3 hM4; clear hM4 hM3 hM2 hS hLo hHi
      clear pb
      go_wp2_with fail
      refine wp_region_mixw (exS g1 (o1 + k) g2 (o2 + k) x y) (.take 0 (.take 1 (.take 2 (.take 3 (.take 4 (.take 5 (.take 6 (.take 7 (.take 8 (.take 9 (.take 10 (.take 11 (.take 12 (.take 13 (.take 14 (.take 15 .done)))))))))))))))) (by kernel_rfl) (by kernel_rfl) ?_ ?_
      ·exact HS.out
      intro w1 hs1 hk1
      repeat (first
       | (refine mix_skip rfl (by rfl) ?_; try simp only [Act.put, List.setIfInBounds_toArray, List.set_cons_zero, List.set_cons_succ])
       | (refine mix_skipm rfl (by rfl) ?_; try simp only [Act.put, List.setIfInBounds_toArray, List.set_cons_zero, List.set_cons_succ])
       | (refine mix_take (v := ?_) rfl (by rfl) ?_ ?_; rotate_left; (· intro w' hSw; unfold exS at hSw; go_simp; (try with_reducible rfl)); rotate_right; try simp only [Act.put, List.setIfInBounds_toArray, List.set_cons_zero, List.set_cons_succ]))
      refine mix_pure (v := ?_) rfl (by rfl) ?_ ?_ ?_ ?_ ?_
      rotate_left 3
      ·intro w' hSw; unfold exS at hSw; go_simp; (first | done | (constructor <;> with_reducible rfl) | with_reducible rfl)
      ·intro w' hSw; exact (Hmul.out _)
      rotate_right 3
      try simp only [Act.put, List.setIfInBounds_toArray, List.set_cons_zero, List.set_cons_succ]
      repeat (first
       | (refine mix_skip rfl (by rfl) ?_; try simp only [Act.put, List.setIfInBounds_toArray, List.set_cons_zero, List.set_cons_succ])
       | (refine mix_skipm rfl (by rfl) ?_; try simp only [Act.put, List.setIfInBounds_toArray, List.set_cons_zero, List.set_cons_succ])
       | (refine mix_take (v := ?_) rfl (by rfl) ?_ ?_; rotate_left; (· intro w' hSw; unfold exS at hSw; go_simp; (try with_reducible rfl)); rotate_right; try simp only [Act.put, List.setIfInBounds_toArray, List.set_cons_zero, List.set_cons_succ]))
      refine mix_done ?_
      have Hk1 := Lib.hid (Hk.out.nt hk1)
      clear hk1 hs1
      go_wp2
      go_roundw
      case rel => exact ⟨k + 1, N + p, by rw [HM4.out], by rw [HM3.out], by go_num, by omega, Hsn.out, Hk1.out⟩
      case measure => simp [intOf]; omega
     ·have hM4 : (N + p) / 18446744073709551616 = Hi + A := by omega
      obtain ⟨Hk, HN, Hx, Hy, Hsn, Hmul, Hp, HA, HB⟩ := hid9 hk hN hx hy hsn hmul hp hA hB; clear hB hA hp hmul hsn hy hx hN hk; obtain ⟨HHi, HLo, HS, HM2, HM3, HM4⟩ := hid6 hHi hLo hS hM2 hM3 hM4; clear hM4 hM3 hM2 hS hLo hHi
      clear pb
      go_wp2_with fail
      refine wp_region_mixw (exS g1 (o1 + k) g2 (o2 + k) x y) (.take 0 (.take 1 (.take 2 (.take 3 (.take 4 (.take 5 (.take 6 (.take 7 (.take 8 (.take 9 (.take 10 (.take 11 (.take 12 (.take 13 (.take 14 (.take 15 .done)))))))))))))))) (by kernel_rfl) (by kernel_rfl) ?_ ?_
      ·exact HS.out
      intro w1 hs1 hk1
      repeat (first
       | (refine mix_skip rfl (by rfl) ?_; try simp only [Act.put, List.setIfInBounds_toArray, List.set_cons_zero, List.set_cons_succ])
       | (refine mix_skipm rfl (by rfl) ?_; try simp only [Act.put, List.setIfInBounds_toArray, List.set_cons_zero, List.set_cons_succ])
       | (refine mix_take (v := ?_) rfl (by rfl) ?_ ?_; rotate_left; (· intro w' hSw; unfold exS at hSw; go_simp; (try with_reducible rfl)); rotate_right; try simp only [Act.put, List.setIfInBounds_toArray, List.set_cons_zero, List.set_cons_succ]))
      refine mix_pure (v := ?_) rfl (by rfl) ?_ ?_ ?_ ?_ ?_
      rotate_left 3
      ·intro w' hSw; unfold exS at hSw; go_simp; (first | done | (constructor <;> with_reducible rfl) | with_reducible rfl)
      ·intro w' hSw; exact (Hmul.out _)
      rotate_right 3
      try simp only [Act.put, List.setIfInBounds_toArray, List.set_cons_zero, List.set_cons_succ]
      repeat (first
       | (refine mix_skip rfl (by rfl) ?_; try simp only [Act.put, List.setIfInBounds_toArray, List.set_cons_zero, List.set_cons_succ])
       | (refine mix_skipm rfl (by rfl) ?_; try simp only [Act.put, List.setIfInBounds_toArray, List.set_cons_zero, List.set_cons_succ])
       | (refine mix_take (v := ?_) rfl (by rfl) ?_ ?_; rotate_left; (· intro w' hSw; unfold exS at hSw; go_simp; (try with_reducible rfl)); rotate_right; try simp only [Act.put, List.setIfInBounds_toArray, List.set_cons_zero, List.set_cons_succ]))
      refine mix_done ?_
      have Hk1 := Lib.hid (Hk.out.nt hk1)
      clear hk1 hs1
      go_wp2
      go_roundw
      case rel => exact ⟨k + 1, N + p, by rw [HM4.out], by rw [HM3.out], by go_num, by omega, Hsn.out, Hk1.out⟩
      case measure => simp [intOf]; omega
    ·obtain rfl : n = k := by omega
     rw [List.take_of_length_le (by rw [HX.out]; exact Nat.le_refl _), List.take_of_length_le (by rw [HY.out]; exact Nat.le_refl _), HR.out] at hN
     subst hN
     have Hk := Lib.hid hk; clear hk
     go_wp2
     exact bodyPost_ret (v := .tuple #[.int .u64 (R / 18446744073709551616), .int .u64 (R % 18446744073709551616), .int .i64 0]) (by simp [results, Try.results35, go_sem]) rfl ⟨rfl, Hk.out⟩
set_option maxRecDepth 100000 in
set_option maxHeartbeats 800000 in
theorem r13Of_any (X Y : List Int) (ad1 ad2 : Option Addr) (c1 c2 n : Nat) (w : World) (hr1 : Reads w 1 (.slice ad1 n c1) n (X.flatMap i64c)) (hX : X.length = n) (hr2 : Reads w 1 (.slice ad2 n c2) n (Y.flatMap i64c)) (hY : Y.length = n) (hn : n ≤ 40000)
  (hXb : ∀ x ∈ X, 0 ≤ x ∧ x ≤ 1000000000000000) (hYb : ∀ y ∈ Y, 0 ≤ y ∧ y ≤ 10000000) :
  Calls Try.prog 22 #[.slice ad1 n c1, .slice ad2 n c2] w fun e w' => e = .returned (.tuple #[.int .i64 (ofR X Y).1, .int .i64 (ofR X Y).2]) ∧ Keeps (fun _ => False) w w' := by
 have hex := r13Exact_any X Y ad1 ad2 c1 c2 n w hr1 hX hr2 hY hn hXb hYb
 obtain ⟨R, hR⟩ : ∃ R, dotI X Y = R := ⟨_, rfl⟩
 have hbd := dotI_bd X Y hXb hYb
 rw [hR] at hbd hex
 have hR2 : R ≤ 400000000000000000000000000 := by rw [hX] at hbd; omega
 obtain ⟨R0, _⟩ := hbd
 have hev := fun W => r01Even_any (R / 18446744073709551616) (R % 18446744073709551616) 1000000000 R (by decide) (by decide) (by omega) (by omega) (by omega) (by omega) (by omega) (by omega) W
 obtain ⟨E, hE⟩ : ∃ E, evenI R 1000000000 = E := ⟨_, rfl⟩
 have hEb : 0 ≤ E ∧ E ≤ 400000000000000001 := by rw [← hE]; unfold evenI; split <;> omega
 rw [hE] at hev
 have ho : ofR X Y = if 1000000000000000 < E then (0, 5) else (E, 0) := by unfold ofR; rw [hR, hE]
 obtain ⟨E0, E1⟩ := hEb
 by_cases hc : 1000000000000000 < E
 ·rw [ho, if_pos hc]
  obtain ⟨Hex, Hev, HR, HE, Ho⟩ := hid5 hex hev hR hE ho; clear ho hE hR hev hex
  go_enter Try.func22, Try.ntmps22
  go_wp2_with (first | (go_at_call 35; (with_reducible refine Hex.out.mono ?_); rintro e w1 ⟨rfl, hk1⟩; have Hk1 := Lib.hid hk1; clear hk1) | (go_at_call 36; (with_reducible refine (Hev.out _).mono ?_); rintro e w2 ⟨rfl, hk2⟩; have Hk2 := Lib.hid (Hk1.out.nt hk2); clear hk2))
  exact bodyPost_ret (v := .tuple #[.int .i64 0, .int .i64 5]) (by simp [results, Try.results22, go_sem]) rfl ⟨rfl, Hk2.out⟩
 ·rw [ho, if_neg hc]
  obtain ⟨Hex, Hev, HR, HE, Ho⟩ := hid5 hex hev hR hE ho; clear ho hE hR hev hex
  go_enter Try.func22, Try.ntmps22
  go_wp2_with (first | (go_at_call 35; (with_reducible refine Hex.out.mono ?_); rintro e w1 ⟨rfl, hk1⟩; have Hk1 := Lib.hid hk1; clear hk1) | (go_at_call 36; (with_reducible refine (Hev.out _).mono ?_); rintro e w2 ⟨rfl, hk2⟩; have Hk2 := Lib.hid (Hk1.out.nt hk2); clear hk2))
  exact bodyPost_ret (v := .tuple #[.int .i64 E, .int .i64 0]) (by simp [results, Try.results22, go_sem]) rfl ⟨rfl, Hk2.out⟩
end Go.Proofs.Ythcmpcekmkioaaa
namespace Go.Proofs.Ythcmpcekmkioaaa
open Go.RowKit
structure TwoR (w0 W : World) (A B : List Int) (va vb : Value) : Prop where
 a : W.ownsRow 0 2 1 va A.length (A.flatMap i64c)
 b : W.ownsRow 0 2 1 vb B.length (B.flatMap i64c)
 kp : Keeps (fun _ => False) w0 W
 fa : ∀ g, va.ownBlock = some g → w0.heap.size ≤ g
 fb : ∀ g, vb.ownBlock = some g → w0.heap.size ≤ g
 ne : ∀ g, va.ownBlock = some g → ¬ vb.ownBlock = some g
theorem TwoR.nil (w : World) : TwoR w w [] [] (.slice none 0 0) (.slice none 0 0) := ⟨World.ownsRow_nil _ _ _ _, World.ownsRow_nil _ _ _ _, Keeps.refl _ _, by simp [Value.ownBlock], by simp [Value.ownBlock], by simp [Value.ownBlock]⟩
theorem TwoR.swap {w0 W : World} {A B : List Int} {va vb : Value} (h : TwoR w0 W A B va vb) : TwoR w0 W B A vb va := ⟨h.b, h.a, h.kp, h.fb, h.fa, fun g h1 h2 => h.ne g h2 h1⟩
theorem TwoR.keep {w0 W W1 : World} {A B : List Int} {va vb : Value} (h : TwoR w0 W A B va vb) (hk : Keeps (fun _ => False) W W1) : TwoR w0 W1 A B va vb := ⟨h.a.of_keeps hk, h.b.of_keeps hk, h.kp.nt hk, h.fa, h.fb, h.ne⟩
theorem TwoR.app {w0 W W' : World} {A B : List Int} {va vb va' : Value} {x : Int} {n : Nat} (h : TwoR w0 W A B va vb) (hn : n = A.length + 1) (hr : W'.ownsRow 0 2 1 va' n ((A ++ [x]).flatMap i64c)) (hk : Keeps (fun k => va.ownBlock = some k) W W')
  (hf : va'.ownBlock = va.ownBlock ∨ ∃ g, va'.ownBlock = some g ∧ W.heap.size ≤ g) : TwoR w0 W' (A ++ [x]) B va' vb where
 a := by rw [List.length_append, List.length_singleton, ← hn]; exact hr
 b := hk.row h.b fun g h1 h2 => h.ne g h2 h1
 kp := h.kp.trans (hk.mono fun i _ e => .inr (h.fa i e))
 fa := fun g hg => by
  rcases hf with e | ⟨g', e1, e2⟩
  ·rw [e] at hg; exact h.fa g hg
  ·rw [e1] at hg; injection hg with hg; have := h.kp.size; omega
 fb := h.fb
 ne := fun g hg hb => by
  rcases hf with e | ⟨g', e1, e2⟩
  ·rw [e] at hg; exact h.ne g hg hb
  ·rw [e1] at hg; injection hg with hg
   have := own_lt h.b hb
   omega
theorem rep_take (n k : Nat) (a : Int) (h : k < n) : (List.replicate n a).take (k + 1) = (List.replicate n a).take k ++ [a] := by
 simp only [List.take_replicate]
 rw [show min (k + 1) n = min k n + 1 by omega, List.replicate_succ']
theorem mixT_take (D k : Nat) (a b : Int) (hD : D ≤ 31) (h : k < 31) : (List.replicate D a ++ List.replicate (31 - D) b).take (k + 1) = (List.replicate D a ++ List.replicate (31 - D) b).take k ++ [if (k : Int) < D then a else b] := by
 have hx : (List.replicate D a ++ List.replicate (31 - D) b)[k]? = some (if (k : Int) < D then a else b) := by
  by_cases hk : k < D
  ·rw [List.getElem?_append_left (by simpa using hk), List.getElem?_replicate, if_pos hk, if_pos (by omega)]
  ·rw [List.getElem?_append_right (by simp; omega), List.getElem?_replicate, if_pos (by simp; omega), if_neg (by omega)]
 exact take_snoc' hx
theorem mix_len (D : Nat) (a b : Int) (hD : D ≤ 31) : (List.replicate D a ++ List.replicate (31 - D) b).length = 31 := by simp; omega
theorem mix_all {D : Nat} {a b : Int} {P : Int → Prop} (ha : P a) (hb : P b) : ∀ x ∈ List.replicate D a ++ List.replicate (31 - D) b, P x := fun x hx => by
 rcases List.mem_append.1 hx with h | h
 ·rw [(List.mem_replicate.1 h).2]; exact ha
 ·rw [(List.mem_replicate.1 h).2]; exact hb
end Go.Proofs.Ythcmpcekmkioaaa
namespace Go.Proofs.Ythcmpcekmkioaaa
open Go.RowKit
def dbl : Nat → Int
 | 0 => 1
 | n + 1 => 2 * dbl n
theorem dbl_pos : ∀ n, 1 ≤ dbl n
 | 0 => by decide
 | n + 1 => by have := dbl_pos n; simp only [dbl]; omega
def hdT (A : Int) : List Ev := [⟨1, 10957, 1, A, 0⟩]
def hbT (A H D : Int) : List Ev := [⟨1, 10957, 1, A, 0⟩, ⟨4, 10957 + D, 1, H, 1⟩, ⟨5, 10957 + D, 1, H, 1⟩]
theorem free_hold (out : List Stm) (fr A H D : Int) : freeB out fr (hbT A H D) = freeB out fr (hdT A) := by
 unfold freeB
 split
 ·rfl
 ·unfold hasB
  simp [paidS, hbT, hdT, payQ]
def hSt (i : Nat) (day a du : Int) (k : Nat) (out : List Stm) : St := st2 i day a 0 0 du 1000000 2000000 (List.replicate k a) (List.replicate k 0) (List.replicate k 1000000) (List.replicate k 2000000) out
def HGo (A H D : Int) (d : Nat) (S : List (Int × Int)) (day a du : Int) (k : Nat) (out : List Stm) (j : Nat) : Prop :=
 ∃ s1 s2, walkD tF (hdT A) 2 d S (hSt 1 day a du k out) = (s1, 0) ∧ walkD tF (hbT A H D) 2 d S (hSt j day a du k out) = (s2, 0) ∧ s1.p = s2.p ∧ s1.out = s2.out ∧ s1.p.bal.length = 2
theorem rep_in {n : Nat} {a x : Int} (h : x ∈ List.replicate n a) : x = a := (List.mem_replicate.1 h).2
theorem rep_snoc (n : Nat) (a : Int) : List.replicate n a ++ [a] = List.replicate (n + 1) a := List.replicate_succ'.symm
theorem hold_back {A H D a du : Int} {day : Int} {k : Nat} {out : List Stm} {d : Nat} {S : List (Int × Int)} (hH : 1 ≤ H ∧ H ≤ a) (ha : a ≤ 1000000000) (hdu : 0 ≤ du ∧ du ≤ 1000000000) (hday : day = 10957 + D) (h : HGo A H D d S day a du k out 3) : HGo A H D d S day a du k out 1 := by
 obtain ⟨s1, s2, h1, h2, h3, h4, h5⟩ := h
 have p0 : Ps.rightB ⟨[a, 0], 0, du⟩ = true := right2 (by omega) (by omega) (by omega) (by omega) (by omega) (.inl rfl)
 have p1 : Ps.rightB ⟨[a - H, 0], 0, du⟩ = true := right2 (by omega) (by omega) (by omega) (by omega) (by omega) (.inl rfl)
 have m0 : minI H 0 = 0 := by unfold minI; rw [if_neg (by omega)]
 refine ⟨s1, s2, h1, ?_, h3, h4, h5⟩
 refine walkD_ev1 (e := ⟨4, 10957 + D, 1, H, 1⟩) rfl hday.symm (give2 (a' := a - H) (b' := 0) p0 (by omega) (by omega) (by omega) (by omega) (.inr rfl) (by omega) (.inl ⟨rfl, hH.2, rfl, rfl⟩) p1) ?_ rfl
 refine walkD_ev1 (e := ⟨5, 10957 + D, 1, H, 1⟩) rfl hday.symm (charge2 (a' := a) (b' := 0) (c' := 0) p1 (by omega) (by omega) (.inr rfl) (by omega) (.inl ⟨rfl, by rw [m0]; omega, rfl⟩) (by rw [m0]; rfl) p0) ?_ rfl
 exact h2
theorem holds_go {A H D : Int} (hH : 1 ≤ H) : ∀ (d : Nat) (fr te : Int) (S : List (Int × Int)) (day a du : Int) (k : Nat) (out : List Stm) (j : Nat), SpanC (day + d) fr ((fr, te) :: S) → fr + k = day → day ≤ te → H ≤ a → a * dbl S.length ≤ 1000000000 → 0 ≤ du → du ≤ 1000000000 → (j = 1 ∧ day ≤ 10957 + D) ∨ j = 3 → HGo A H D d ((fr, te) :: S) day a du k out j := by
 intro d
 induction d with
 | zero =>
  intro fr te S day a du k out j hS hk hte hHa hb hd0 hd1 hj
  have hdp := dbl_pos S.length
  have ha : a ≤ 1000000000 := by
   have : a * 1 ≤ a * dbl S.length := Int.mul_le_mul_of_nonneg_left hdp (by omega)
   omega
  have key : ∀ j, (∀ x, (hbT A H D)[j]? = some x → ¬ x.day = day) → HGo A H D 0 ((fr, te) :: S) day a du k out j := fun j hq => ⟨_, _, walkD_stop (by intro x hx; simp [hSt, st2, hdT] at hx), walkD_stop hq, rfl, rfl, rfl⟩
  by_cases hq : j = 1 ∧ day = 10957 + D
  ·obtain ⟨rfl, hday⟩ := hq
   exact hold_back ⟨hH, hHa⟩ ha ⟨hd0, hd1⟩ hday (key 3 (by intro x hx; simp [hbT] at hx))
  ·refine key j (fun x hx => ?_)
   rcases hj with ⟨rfl, hj⟩ | rfl
   ·simp only [hbT, List.getElem?_cons_succ, List.getElem?_cons_zero, Option.some.injEq] at hx
    subst hx
    show ¬ 10957 + D = day
    omega
   ·simp [hbT] at hx
 | succ d ih =>
  intro fr te S day a du k out j hS hk hte hHa hb hd0 hd1 hj
  have hdp := dbl_pos S.length
  have ha : a ≤ 1000000000 := by
   have : a * 1 ≤ a * dbl S.length := Int.mul_le_mul_of_nonneg_left hdp (by omega)
   omega
  have key : ∀ j, (j = 1 ∧ day < 10957 + D) ∨ j = 3 → HGo A H D (d + 1) ((fr, te) :: S) day a du k out j := fun j hq => by
   have hq1 : ∀ x, (hdT A)[1]? = some x → ¬ x.day = day := by intro x hx; simp [hdT] at hx
   have hq2 : ∀ x, (hbT A H D)[j]? = some x → day + (1 : Nat) ≤ x.day := by
    intro x hx
    rcases hq with ⟨rfl, hj⟩ | rfl
    ·simp only [hbT, List.getElem?_cons_succ, List.getElem?_cons_zero, Option.some.injEq] at hx
     subst hx
     show day + ((1 : Nat) : Int) ≤ 10957 + D
     omega
    ·simp [hbT] at hx
   have hjn : (j = 1 ∧ day + 1 ≤ 10957 + D) ∨ j = 3 := by omega
   by_cases hcl : te = day
   ·-- the cycle is closed
    cases hS with
    | last h1 h2 h3 => omega
    | more h1 h2 h3 =>
     obtain ⟨te', S', rfl, ok', lo', _⟩ := h3.head
     have hsh := h1.sh
     obtain ⟨g, hg⟩ : ∃ g, freeB out fr (hdT A) = g := ⟨_, rfl⟩
     have hg2 : freeB out fr (hbT A H D) = g := by rw [free_hold]; exact hg
     obtain ⟨e1, e2, e3, e4⟩ := ofR_ok (X := List.replicate (k + 1) a) (Y := List.replicate (k + 1) (1000000 : Int)) (A := a) (by omega) (by omega) (by rw [List.length_replicate]; omega) (fun x hx => by rw [rep_in hx]; omega) (fun y hy => by rw [rep_in hy]; omega)
     obtain ⟨v, hv⟩ : ∃ v, ofR (List.replicate (k + 1) a) (List.replicate (k + 1) 1000000) = (v, 0) := ⟨_, by rw [← e1]⟩
     rw [hv] at e2 e3
     simp only at e2 e3
     obtain ⟨v1, hv1, hv1b⟩ : ∃ v1, ((g = true ∧ v1 = 0) ∨ (g = false ∧ ofR (List.replicate k a ++ [a]) (List.replicate k 1000000 ++ [1000000]) = (v1, 0))) ∧ 0 ≤ v1 ∧ v1 ≤ a := by
      rcases g with _ | _
      ·exact ⟨v, .inr ⟨rfl, by rw [rep_snoc, rep_snoc]; exact hv⟩, e2, e3⟩
      ·exact ⟨0, .inl ⟨rfl, rfl⟩, by omega, by omega⟩
     have hv2 : ofR (List.replicate k 0 ++ [0]) (List.replicate k 2000000 ++ [2000000]) = (0, 0) := by
      rw [rep_snoc]
      exact ofR_zero (fun x hx => rep_in hx)
     have hsum : a + v1 + (0 + 0) ≤ 1000000000000000 := by omega
     have hlb := leastI_bd (mf := 25) (mp := 20) (total := a + v1 + (0 + 0)) (by omega) (by omega)
     have hb' : (a + v1) * dbl S'.length ≤ 1000000000 := by
      have h5 : (a + v1) * dbl S'.length ≤ (2 * a) * dbl S'.length := Int.mul_le_mul_of_nonneg_right (by omega) (by have := dbl_pos S'.length; omega)
      have h6 : a * dbl ((te + 1, te') :: S').length = 2 * a * dbl S'.length := by simp only [List.length_cons, dbl]; rw [← Int.mul_assoc, Int.mul_comm a 2]
      omega
     have hdp' := dbl_pos S'.length
     have ha' : a + v1 ≤ 1000000000 := by
      have : (a + v1) * 1 ≤ (a + v1) * dbl S'.length := Int.mul_le_mul_of_nonneg_left hdp' (by omega)
      omega
     obtain ⟨s1, s2, i1, i2, i3, i4, i5⟩ := ih (te + 1) te' S' (day + 1) (a + v1) (leastI 25 20 (a + v1 + (0 + 0))) 0 (out ++ [⟨(out.length : Int) + 1, fr, te, te + 20, a + v1 + (0 + 0), 0, leastI 25 20 (a + v1 + (0 + 0)), g, [⟨a + v1, v1, 1000000⟩, ⟨0 + 0, 0, 2000000⟩]⟩]) j (by rw [show day + 1 + (d : Int) = day + ((d + 1 : Nat) : Int) by omega]; exact h3) (by omega) (by have := ok'.le; omega) (by omega) hb' hlb.1 (by omega) hjn
     refine ⟨s1, s2, ?_, ?_, i3, i4, i5⟩
     ·exact walkD_close hcl hq1 (closeF hg hv1 hv2 hv1b.1 (by omega) (by omega) (by omega) hsum (by omega)) i1
     ·exact walkD_close hcl (fun x hx => by have := hq2 x hx; omega) (closeF hg2 hv1 hv2 hv1b.1 (by omega) (by omega) (by omega) hsum (by omega)) i2
   ·-- a day more
    obtain ⟨s1, s2, i1, i2, i3, i4, i5⟩ := ih fr te S (day + 1) a du (k + 1) out j (by rw [show day + 1 + (d : Int) = day + ((d + 1 : Nat) : Int) by omega]; exact hS) (by omega) (by omega) hHa hb hd0 hd1 hjn
    refine ⟨s1, s2, ?_, ?_, i3, i4, i5⟩
    ·unfold hSt
     rw [walkD_quiet d 1 day _ _ _ _ (by intro x hx; simp [hdT] at hx) (by omega)]
     simp only [List.replicate_one, rep_snoc]
     exact i1
    ·unfold hSt
     rw [walkD_quiet d 1 day _ _ _ _ hq2 (by omega)]
     simp only [List.replicate_one, rep_snoc]
     exact i2
  by_cases hq : j = 1 ∧ day = 10957 + D
  ·obtain ⟨rfl, hday⟩ := hq
   exact hold_back ⟨hH, hHa⟩ ha ⟨hd0, hd1⟩ hday (key 3 (.inr rfl))
  ·exact key j (by omega)
theorem holds_days : ∀ K : Fin 60, ofE 10957 1 (11017 + (K.val : Int)) = 0 ∧ (allL 10957 1 (11017 + (K.val : Int))).length ≤ 5 ∧ (findW 1 (11017 + (K.val : Int)) 300 10957).2 = true := by decide +kernel
theorem holds_both {A H D K : Int} (hA : 1 ≤ A ∧ A ≤ 1000000) (hH : 1 ≤ H ∧ H ≤ A) (hD : 0 ≤ D ∧ D ≤ 59) (hK : 0 ≤ K ∧ K ≤ 59) : ∃ s1 s2, walkR tF (hdT A) (11017 + K) = (s1, 0) ∧ walkR tF (hbT A H D) (11017 + K) = (s2, 0) ∧ s1.p = s2.p ∧ s1.out = s2.out ∧ s1.p.bal.length = 2 := by
 obtain ⟨q, hq⟩ : ∃ q : Nat, K = q := ⟨K.toNat, by omega⟩
 subst hq
 obtain ⟨o1, o2, o3⟩ := holds_days ⟨q, by omega⟩
 simp only at o1 o2 o3
 obtain ⟨hS, _⟩ := find_spans 1 (11017 + (q : Int)) 300 10957 o3
 have hall : allL 10957 1 (11017 + (q : Int)) = (findW 1 (11017 + (q : Int)) 300 10957).1 := by unfold allL; rw [if_pos o3]
 rw [← hall] at hS
 obtain ⟨te, S', hS', ok, lo, _⟩ := hS.head
 rw [hS'] at hS o2
 simp only [List.length_cons] at o2
 have hb : A * dbl S'.length ≤ 1000000000 := by
  have h1 : dbl S'.length ≤ 16 := by
   have : S'.length = 0 ∨ S'.length = 1 ∨ S'.length = 2 ∨ S'.length = 3 ∨ S'.length = 4 := by omega
   rcases this with h | h | h | h | h <;> rw [h] <;> decide
  have : A * dbl S'.length ≤ A * 16 := Int.mul_le_mul_of_nonneg_left h1 (by omega)
  omega
 have hgo := holds_go (A := A) (H := H) (D := D) hH.1 (60 + q) 10957 te S' 10957 A 0 0 [] 1 (by rw [show (10957 : Int) + ((60 + q : Nat) : Int) = 11017 + (q : Int) by omega]; exact hS) (by omega) (by have := ok.le; omega) hH.2 hb (by omega) (by omega) (.inl ⟨rfl, by omega⟩)
 obtain ⟨s1, s2, h1, h2, h3, h4, h5⟩ := hgo
 have ev0 : evErr tF ⟨1, 10957, 1, A, 0⟩ = 0 := evErrF (by omega) (by omega) (by omega) (by omega) (by omega)
 have ev1 : evErr tF ⟨4, 10957 + D, 1, H, 1⟩ = 0 := evErrF (by omega) (by omega) (by omega) (by omega) (by omega)
 have ev2 : evErr tF ⟨5, 10957 + D, 1, H, 1⟩ = 0 := evErrF (by omega) (by omega) (by omega) (by omega) (by omega)
 have p0 : Ps.rightB ⟨[0, 0], 0, 0⟩ = true := by decide +kernel
 have p1 : Ps.rightB ⟨[A, 0], 0, 0⟩ = true := right2 (by omega) (by omega) (by omega) (by omega) (by omega) (.inl rfl)
 have m0 : minI A 0 = 0 := by unfold minI; rw [if_neg (by omega)]
 have hn : (11017 + (q : Int) - 10957).toNat = 60 + q := by omega
 refine ⟨s1, s2, walkF ?_ (by simp [hdT]) (by omega) o1 ?_ ?_, walkF ?_ (by simp [hbT]) (by omega) o1 ?_ ?_, h3, h4, h5⟩
 ·intro x hx
  simp only [hdT, List.mem_singleton] at hx
  subst hx
  exact ⟨ev0, by show (10957 : Int) ≤ _; omega⟩
 ·simp [hdT, Sorted]
 ·rw [hn, hS']
  exact walkD_ev1 (e := ⟨1, 10957, 1, A, 0⟩) rfl rfl (charge2 (a' := A) (b' := 0) (c' := 0) p0 (by omega) (by omega) (.inl rfl) (by omega) (.inl ⟨rfl, by rw [m0]; omega, rfl⟩) (by rw [m0]; rfl) p1) h1 rfl
 ·intro x hx
  simp only [hbT, List.mem_cons, List.not_mem_nil, or_false] at hx
  rcases hx with rfl | rfl | rfl
  ·exact ⟨ev0, by show (10957 : Int) ≤ _; omega⟩
  ·exact ⟨ev1, by show 10957 + D ≤ _; omega⟩
  ·exact ⟨ev2, by show 10957 + D ≤ _; omega⟩
 ·simp [hbT, Sorted]
  omega
 ·rw [hn, hS']
  exact walkD_ev1 (e := ⟨1, 10957, 1, A, 0⟩) rfl rfl (charge2 (a' := A) (b' := 0) (c' := 0) p0 (by omega) (by omega) (.inl rfl) (by omega) (.inl ⟨rfl, by rw [m0]; omega, rfl⟩) (by rw [m0]; rfl) p1) h2 rfl
end Go.Proofs.Ythcmpcekmkioaaa
namespace Go.Proofs.Ythcmpcekmkioaaa
open Go.RowKit
def crT (F P S : Int) (D : Nat) : List Ev := [⟨1, 10957, 1, F, 0⟩, ⟨2, 10957, 0, P, 0⟩, ⟨1, 10957 + D, 1, S, 0⟩]
theorem mem_app3 {x : Int} {A B C : List Int} {P : Int → Prop} (h1 : ∀ x ∈ A, P x) (h2 : ∀ x ∈ B, P x) (h3 : ∀ x ∈ C, P x) (h : x ∈ A ++ B ++ C) : P x := by
 rcases List.mem_append.1 h with h | h
 ·rcases List.mem_append.1 h with h | h
  ·exact h1 _ h
  ·exact h2 _ h
 ·exact h3 _ h
theorem all_of {P : Int → Prop} {k : Nat} {a : Int} (h : P a) : ∀ x ∈ List.replicate k a, P x := fun x hx => by rw [rep_in hx]; exact h
theorem all_one {P : Int → Prop} {a : Int} (h : P a) : ∀ x ∈ [a], P x := fun x hx => by rw [List.mem_singleton.1 hx]; exact h
theorem all_app {P : Int → Prop} {A B : List Int} (h1 : ∀ x ∈ A, P x) (h2 : ∀ x ∈ B, P x) : ∀ x ∈ A ++ B, P x := fun x hx => (List.mem_append.1 hx).elim (h1 x) (h2 x)
theorem credit_walk {F P S : Int} {D : Nat} (hF : 1 ≤ F ∧ F ≤ 1000) (hP : 1 ≤ P ∧ P ≤ 3000) (hS : 1 ≤ S ∧ S ≤ 3000) (hD : D ≤ 29) :
  ∃ s X l1 l2 B C du, walkR tF (crT F P S D) 10988 = (s, 0) ∧ s.p = ⟨[B, 0], C, du⟩ ∧ s.out = [X] ∧ X.total = B ∧ X.credit = C ∧ X.lines = [l1, l2] ∧ l1.interest = 0 ∧ (0 ≤ F + S - P → B = F + S - P ∧ C = 0) ∧ (F + S - P ≤ 0 → B = 0 ∧ C = -(F + S - P)) := by
 obtain ⟨B1, hB1⟩ : ∃ B1, F - minI P F = B1 := ⟨_, rfl⟩
 obtain ⟨C1, hC1⟩ : ∃ C1, P - minI P F = C1 := ⟨_, rfl⟩
 obtain ⟨B2, hB2⟩ : ∃ B2, B1 + (S - minI S C1) = B2 := ⟨_, rfl⟩
 obtain ⟨C2, hC2⟩ : ∃ C2, C1 - minI S C1 = C2 := ⟨_, rfl⟩
 have hm1 : 0 ≤ B1 ∧ 0 ≤ C1 ∧ (B1 = 0 ∨ C1 = 0) ∧ B1 - C1 = F - P ∧ B1 ≤ F ∧ C1 ≤ P := by
  rw [← hB1, ← hC1]
  unfold minI
  split <;> omega
 have hm2 : 0 ≤ B2 ∧ 0 ≤ C2 ∧ (B2 = 0 ∨ C2 = 0) ∧ B2 - C2 = F + S - P ∧ B2 ≤ 10000 ∧ C2 ≤ P := by
  rw [← hB2, ← hC2]
  unfold minI
  split <;> omega
 have p0 : Ps.rightB ⟨[0, 0], 0, 0⟩ = true := by decide +kernel
 have p1 : Ps.rightB ⟨[F, 0], 0, 0⟩ = true := right2 (by omega) (by omega) (by omega) (by omega) (by omega) (.inl rfl)
 have p2 : Ps.rightB ⟨[B1, 0], C1, 0⟩ = true := right2 (by omega) (by omega) (by omega) (by omega) (by omega) (by omega)
 have p3 : Ps.rightB ⟨[B2, 0], C2, 0⟩ = true := right2 (by omega) (by omega) (by omega) (by omega) (by omega) (by omega)
 have m0 : minI F 0 = 0 := by unfold minI; rw [if_neg (by omega)]
 have z0 : (0 : Int) - minI P 0 = 0 := by unfold minI; rw [if_neg (by omega)]; rfl
 have hpay := pay2 (day := 10957) (tr := 0) (re := 0) (m := P) p1 (by omega) (by omega) (by omega) (by rw [hB1, hC1, z0]; exact p2)
 rw [hB1, hC1, z0] at hpay
 have hcl : ∃ X l1 l2 du, closeS tF (crT F P S D) 2 (st2 3 10987 B2 0 C2 0 1000000 2000000 (([] ++ List.replicate D B1 ++ List.replicate (30 - D) B2) ++ [B2]) (([] ++ List.replicate D 0 ++ List.replicate (30 - D) 0) ++ [0]) (([] ++ List.replicate D 1000000 ++ List.replicate (30 - D) 1000000) ++ [1000000]) (([] ++ List.replicate D 2000000 ++ List.replicate (30 - D) 2000000) ++ [2000000]) []) 10957 10987
   = some (st2 3 10987 B2 0 C2 du 1000000 2000000 [] [] [] [] ([] ++ [X])) ∧ X.total = B2 ∧ X.credit = C2 ∧ X.lines = [l1, l2] ∧ l1.interest = 0 := by
  have hz : ofR (([] ++ List.replicate D 0 ++ List.replicate (30 - D) 0) ++ [0]) (([] ++ List.replicate D 2000000 ++ List.replicate (30 - D) 2000000) ++ [2000000]) = (0, 0) :=
   ofR_zero (all_app (all_app (all_app (by simp) (all_of rfl)) (all_of rfl)) (all_one rfl))
  rcases hm2.2.2.1 with h0 | h0
  ·subst h0
   exact ⟨_, _, _, _, closeC (g := true) rfl (.inl rfl) hz (by omega) (by omega), rfl, rfl, rfl, rfl⟩
  ·subst h0
   have := closeF (T := crT F P S D) (i := 3) (day := 10987) (a := B2) (b := 0) (du := 0) (r1 := 1000000) (r2 := 2000000) (fr := 10957) (te := 10987) (x1 := ([] ++ List.replicate D B1 ++ List.replicate (30 - D) B2) ++ [B2]) (y1 := ([] ++ List.replicate D 1000000 ++ List.replicate (30 - D) 1000000) ++ [1000000]) (out := []) (g := true) (v1 := 0) rfl (.inl ⟨rfl, rfl⟩) hz (by omega) (by omega) (by omega) (by omega) (by omega) (by omega)
   simp only [Int.add_zero] at this
   exact ⟨_, _, _, _, this, rfl, rfl, rfl, rfl⟩
 obtain ⟨X, l1, l2, du, hc, x1, x2, x3, x4⟩ := hcl
 refine ⟨st2 3 10988 B2 0 C2 du 1000000 2000000 [] [] [] [] [X], X, l1, l2, B2, C2, du, walkF ?_ (by simp [crT]) (by omega) (by decide +kernel) (by simp [crT, Sorted]; omega) ?_, rfl, rfl, x1, x2, x3, x4, fun h => by omega, fun h => by omega⟩
 ·intro x hx
  simp only [crT, List.mem_cons, List.not_mem_nil, or_false] at hx
  rcases hx with rfl | rfl | rfl
  ·exact ⟨evErrF (by omega) (by omega) (by omega) (by omega) (by omega), by show (10957 : Int) ≤ _; omega⟩
  ·exact ⟨evErrF (by omega) (by omega) (by omega) (by omega) (by omega), by show (10957 : Int) ≤ _; omega⟩
  ·exact ⟨evErrF (by omega) (by omega) (by omega) (by omega) (by omega), by show 10957 + (D : Int) ≤ _; omega⟩
 ·rw [show allL 10957 1 10988 = [(10957, 10987), (10988, 11016)] by decide +kernel, show (10988 - 10957 : Int).toNat = (31 - D) + D by omega]
  refine walkD_ev1 (e := ⟨1, 10957, 1, F, 0⟩) rfl rfl (charge2 (a' := F) (b' := 0) (c' := 0) p0 (by omega) (by omega) (.inl rfl) (by omega) (.inl ⟨rfl, by rw [m0]; omega, rfl⟩) (by rw [m0]; rfl) p1) ?_ rfl
  refine walkD_ev1 (e := ⟨2, 10957, 0, P, 0⟩) rfl rfl hpay ?_ rfl
  show walkD tF (crT F P S D) 2 (31 - D + D) [(10957, 10987), (10988, 11016)] (st2 2 10957 B1 0 C1 0 1000000 2000000 [] [] [] [] []) = _
  rw [walkD_quiet (31 - D) D 10957 _ _ _ _ (by intro x hx; simp only [crT, List.getElem?_cons_succ, List.getElem?_cons_zero, Option.some.injEq] at hx; subst hx; show (10957 : Int) + D ≤ 10957 + D; omega) (by omega)]
  refine walkD_ev1 (e := ⟨1, 10957 + D, 1, S, 0⟩) rfl rfl (charge2 (a' := B2) (b' := 0) (c' := C2) p2 (by omega) (by omega) (.inl rfl) (by omega) (.inl ⟨rfl, hB2.symm, rfl⟩) hC2.symm p3) ?_ rfl
  show walkD tF (crT F P S D) 2 (31 - D) [(10957, 10987), (10988, 11016)] (st2 3 (10957 + D) B2 0 C2 0 1000000 2000000 ([] ++ List.replicate D B1) ([] ++ List.replicate D 0) ([] ++ List.replicate D 1000000) ([] ++ List.replicate D 2000000) []) = _
  rw [show 31 - D = 1 + (30 - D) by omega, walkD_quiet 1 (30 - D) (10957 + D) _ _ _ _ (by intro x hx; simp [crT] at hx) (by omega), show (10957 : Int) + D + ((30 - D : Nat) : Int) = 10987 by omega]
  exact walkD_close rfl (by intro x hx; simp [crT] at hx) hc (walkD_stop (by intro x hx; simp [st2, crT] at hx))
def grT (A P : Int) (D : Nat) : List Ev := [⟨1, 10957, 1, A, 0⟩, ⟨2, 10988 + D, 0, P, 0⟩]
theorem grace_walk {A P : Int} {D : Nat} (hA : 1000 ≤ A ∧ A ≤ 100999) (hP : P = A ∨ P = A - 1) (hD : D ≤ 27) :
  ∃ s X1 X2 l1 l2, walkR tF (grT A P D) 11020 = (s, 0) ∧ s.p.bal.length = 2 ∧ s.out = [X1, X2] ∧ X1.total = A ∧ X1.due = 11007 ∧ X2.grace = (decide (P = A) && decide ((D : Int) ≤ 19)) ∧ X2.lines = [l1, l2] ∧ ((decide (P = A) && decide ((D : Int) ≤ 19)) = true → l1.interest = 0 ∧ X2.total = 0) := by
 obtain ⟨g, hg⟩ : ∃ g, (decide (P = A) && decide ((D : Int) ≤ 19)) = g := ⟨_, rfl⟩
 obtain ⟨du, hdu⟩ : ∃ du, leastI 25 20 A = du := ⟨_, rfl⟩
 have hdu2 : 0 ≤ du ∧ du ≤ A := by rw [← hdu]; exact leastI_bd (by omega) (by omega)
 obtain ⟨du2, hdu3⟩ : ∃ z, du - minI P du = z := ⟨_, rfl⟩
 have hdu4 : 0 ≤ du2 ∧ du2 ≤ A := by rw [← hdu3]; unfold minI; split <;> omega
 have p0 : Ps.rightB ⟨[0, 0], 0, 0⟩ = true := by decide +kernel
 have p1 : Ps.rightB ⟨[A, 0], 0, 0⟩ = true := right2 (by omega) (by omega) (by omega) (by omega) (by omega) (.inl rfl)
 have p2 : Ps.rightB ⟨[A, 0], 0, du⟩ = true := right2 (by omega) (by omega) (by omega) (by omega) (by omega) (.inl rfl)
 have p3 : Ps.rightB ⟨[A - P, 0], 0, du2⟩ = true := right2 (by omega) (by omega) (by omega) (by omega) (by omega) (.inl rfl)
 have m0 : minI A 0 = 0 := by unfold minI; rw [if_neg (by omega)]
 have mP : minI P A = P := by unfold minI; rw [if_pos (by omega)]
 have hpay := pay2 (day := 10988 + D) (tr := 0) (re := 0) (m := P) p2 (by omega) (by omega) (by omega) (by rw [mP, hdu3, show P - P = 0 by omega]; exact p3)
 rw [mP, hdu3, show P - P = 0 by omega] at hpay
 obtain ⟨X1, hX1⟩ : ∃ X : Stm, (⟨1, 10957, 10987, 11007, A, 0, du, true, [⟨A, 0, 1000000⟩, ⟨0, 0, 2000000⟩]⟩ : Stm) = X := ⟨_, rfl⟩
 have hc1 : closeS tF (grT A P D) 2 (st2 1 10987 A 0 0 0 1000000 2000000 (([] ++ List.replicate 30 A) ++ [A]) (([] ++ List.replicate 30 0) ++ [0]) (([] ++ List.replicate 30 1000000) ++ [1000000]) (([] ++ List.replicate 30 2000000) ++ [2000000]) []) 10957 10987 = some (st2 1 10987 A 0 0 du 1000000 2000000 [] [] [] [] ([] ++ [X1])) := by
  have hz : ofR (([] ++ List.replicate 30 0) ++ [0]) (([] ++ List.replicate 30 2000000) ++ [2000000]) = (0, 0) := ofR_zero (all_app (all_app (by simp) (all_of rfl)) (all_one rfl))
  have := closeF (T := grT A P D) (i := 1) (day := 10987) (a := A) (b := 0) (du := 0) (r1 := 1000000) (r2 := 2000000) (fr := 10957) (te := 10987) (x1 := ([] ++ List.replicate 30 A) ++ [A]) (y1 := ([] ++ List.replicate 30 1000000) ++ [1000000]) (out := []) (g := true) (v1 := 0) rfl (.inl ⟨rfl, rfl⟩) hz (by omega) (by omega) (by omega) (by omega) (by omega) (by omega)
  simp only [Int.add_zero, hdu] at this
  rw [this, ← hX1]
  rfl
 have hfree : freeB ([] ++ [X1]) 10988 (grT A P D) = g := by
  rw [← hX1, ← hg]
  have h1 : ¬ A ≤ 0 := by omega
  by_cases hd : (D : Int) ≤ 19
  ·have q : payQ 10988 11007 ⟨2, 10988 + D, 0, P, 0⟩ = true := by simp [payQ]; omega
   have q0 : payQ 10988 11007 ⟨1, 10957, 1, A, 0⟩ = false := rfl
   have hm : minI P 1000000000000000 = P := by unfold minI; rw [if_pos (by omega)]
   have : paidS 10988 11007 (grT A P D) 0 = P := by simp [grT, paidS, q0, q, hm]
   show hasB A 10988 11007 (grT A P D) = _
   unfold hasB
   rw [this]
   rcases hP with h | h
   ·subst h; simp [h1, hd]
   ·have k1 : decide (A ≤ P) = false := by simp; omega
    have k2 : decide (P = A) = false := by simp; omega
    simp [h1, k1, k2]
  ·have q : payQ 10988 11007 ⟨2, 10988 + D, 0, P, 0⟩ = false := by simp [payQ]; omega
   have q0 : payQ 10988 11007 ⟨1, 10957, 1, A, 0⟩ = false := rfl
   have : paidS 10988 11007 (grT A P D) 0 = 0 := by simp [grT, paidS, q0, q]
   show hasB A 10988 11007 (grT A P D) = _
   unfold hasB
   rw [this]
   simp [h1, hd]
 have hc2 : ∃ X2 l1 l2 a d, closeS tF (grT A P D) 2 (st2 2 11016 (A - P) 0 0 du2 1000000 2000000 (([] ++ List.replicate D A ++ List.replicate (28 - D) (A - P)) ++ [A - P]) (([] ++ List.replicate D 0 ++ List.replicate (28 - D) 0) ++ [0]) (([] ++ List.replicate D 1000000 ++ List.replicate (28 - D) 1000000) ++ [1000000]) (([] ++ List.replicate D 2000000 ++ List.replicate (28 - D) 2000000) ++ [2000000]) ([] ++ [X1])) 10988 11016
   = some (st2 2 11016 a 0 0 d 1000000 2000000 [] [] [] [] ([] ++ [X1] ++ [X2])) ∧ X2.grace = g ∧ X2.lines = [l1, l2] ∧ (g = true → l1.interest = 0 ∧ X2.total = 0) := by
  have hz : ofR (([] ++ List.replicate D 0 ++ List.replicate (28 - D) 0) ++ [0]) (([] ++ List.replicate D 2000000 ++ List.replicate (28 - D) 2000000) ++ [2000000]) = (0, 0) :=
   ofR_zero (all_app (all_app (all_app (by simp) (all_of rfl)) (all_of rfl)) (all_one rfl))
  obtain ⟨e1, e2, e3, e4⟩ := ofR_ok (X := ([] ++ List.replicate D A ++ List.replicate (28 - D) (A - P)) ++ [A - P]) (Y := ([] ++ List.replicate D 1000000 ++ List.replicate (28 - D) (1000000 : Int)) ++ [1000000]) (A := A) (by omega) (by omega) (by simp; omega)
   (all_app (all_app (all_app (by simp) (all_of (by omega))) (all_of (by omega))) (all_one (by omega))) (all_app (all_app (all_app (by simp) (all_of (by omega))) (all_of (by omega))) (all_one (by omega)))
  obtain ⟨v, hv⟩ : ∃ v, ofR (([] ++ List.replicate D A ++ List.replicate (28 - D) (A - P)) ++ [A - P]) (([] ++ List.replicate D 1000000 ++ List.replicate (28 - D) (1000000 : Int)) ++ [1000000]) = (v, 0) := ⟨_, by rw [← e1]⟩
  rw [hv] at e2 e3
  simp only at e2 e3
  obtain ⟨v1, hv1, hv1b, hv0⟩ : ∃ v1, ((g = true ∧ v1 = 0) ∨ (g = false ∧ ofR (([] ++ List.replicate D A ++ List.replicate (28 - D) (A - P)) ++ [A - P]) (([] ++ List.replicate D 1000000 ++ List.replicate (28 - D) (1000000 : Int)) ++ [1000000]) = (v1, 0))) ∧ (0 ≤ v1 ∧ v1 ≤ A) ∧ (g = true → v1 = 0) := by
   rcases g with _ | _
   ·exact ⟨v, .inr ⟨rfl, hv⟩, ⟨e2, e3⟩, fun h => by cases h⟩
   ·exact ⟨0, .inl ⟨rfl, rfl⟩, by omega, fun _ => rfl⟩
  refine ⟨_, _, _, _, _, closeF hfree hv1 hz hv1b.1 (by omega) (by omega) (by omega) (by omega) (by omega), rfl, rfl, fun h => ⟨hv0 h, ?_⟩⟩
  have hPA : P = A := by rw [h] at hg; simp at hg; exact hg.1
  show A - P + v1 + (0 + 0) = 0
  rw [hv0 h]
  omega
 obtain ⟨X2, l1, l2, a, d, hc2, x1, x2, x3⟩ := hc2
 refine ⟨st2 2 11020 a 0 0 d 1000000 2000000 ([] ++ List.replicate 3 a) ([] ++ List.replicate 3 0) ([] ++ List.replicate 3 1000000) ([] ++ List.replicate 3 2000000) [X1, X2], X1, X2, l1, l2, walkF ?_ (by simp [grT]) (by omega) (by decide +kernel) (by simp [grT, Sorted]; omega) ?_, rfl, rfl, by rw [← hX1], by rw [← hX1], by rw [hg]; exact x1, x2, by rw [hg]; exact x3⟩
 ·intro x hx
  simp only [grT, List.mem_cons, List.not_mem_nil, or_false] at hx
  rcases hx with rfl | rfl
  ·exact ⟨evErrF (by omega) (by omega) (by omega) (by omega) (by omega), by show (10957 : Int) ≤ _; omega⟩
  ·exact ⟨evErrF (by omega) (by omega) (by omega) (by omega) (by omega), by show 10988 + (D : Int) ≤ _; omega⟩
 ·rw [show allL 10957 1 11020 = [(10957, 10987), (10988, 11016), (11017, 11047)] by decide +kernel, show (11020 - 10957 : Int).toNat = 33 + 30 by omega]
  refine walkD_ev1 (e := ⟨1, 10957, 1, A, 0⟩) rfl rfl (charge2 (a' := A) (b' := 0) (c' := 0) p0 (by omega) (by omega) (.inl rfl) (by omega) (.inl ⟨rfl, by rw [m0]; omega, rfl⟩) (by rw [m0]; rfl) p1) ?_ rfl
  show walkD tF (grT A P D) 2 (33 + 30) [(10957, 10987), (10988, 11016), (11017, 11047)] (st2 1 10957 A 0 0 0 1000000 2000000 [] [] [] [] []) = _
  rw [walkD_quiet 33 30 10957 _ _ _ _ (by intro x hx; simp only [grT, List.getElem?_cons_succ, List.getElem?_cons_zero, Option.some.injEq] at hx; subst hx; show (10957 : Int) + (30 : Nat) ≤ 10988 + D; omega) (by omega), show (10957 : Int) + ((30 : Nat) : Int) = 10987 by omega, show 33 = 32 + 1 by omega]
  refine walkD_close rfl (by intro x hx; simp only [grT, List.getElem?_cons_succ, List.getElem?_cons_zero, Option.some.injEq] at hx; subst hx; show ¬ 10988 + (D : Int) = 10987; omega) hc1 ?_
  rw [show 32 = (32 - D) + D by omega, show (10987 : Int) + 1 = 10988 by omega]
  rw [walkD_quiet (32 - D) D 10988 _ _ _ _ (by intro x hx; simp only [grT, List.getElem?_cons_succ, List.getElem?_cons_zero, Option.some.injEq] at hx; subst hx; show (10988 : Int) + D ≤ 10988 + D; omega) (by omega)]
  refine walkD_ev1 (e := ⟨2, 10988 + D, 0, P, 0⟩) rfl rfl hpay ?_ rfl
  show walkD tF (grT A P D) 2 (32 - D) [(10988, 11016), (11017, 11047)] (st2 2 (10988 + D) (A - P) 0 0 du2 1000000 2000000 ([] ++ List.replicate D A) ([] ++ List.replicate D 0) ([] ++ List.replicate D 1000000) ([] ++ List.replicate D 2000000) ([] ++ [X1])) = _
  rw [show 32 - D = 4 + (28 - D) by omega, walkD_quiet 4 (28 - D) (10988 + D) _ _ _ _ (by intro x hx; simp [grT] at hx) (by omega), show (10988 : Int) + D + ((28 - D : Nat) : Int) = 11016 by omega, show 4 = 3 + 1 by omega]
  refine walkD_close rfl (by intro x hx; simp [grT] at hx) hc2 ?_
  rw [show 3 = 0 + 3 by omega, show (11016 : Int) + 1 = 11017 by omega, walkD_quiet 0 3 11017 _ _ _ _ (by intro x hx; simp [grT] at hx) (by omega)]
  exact walkD_stop (by intro x hx; simp [st2, grT] at hx)
end Go.Proofs.Ythcmpcekmkioaaa
namespace Go.Proofs.Ythcmpcekmkioaaa
open Go.RowKit
theorem rate2 {a b c d r1 r2 day m re : Int} (hp : Ps.rightB ⟨[a, b], c, d⟩ = true) (h1 : 0 ≤ r1 ∧ r1 ≤ 10000000) (h2 : 0 ≤ r2 ∧ r2 ≤ 10000000) (hm : 0 ≤ m ∧ m ≤ 10000000) :
  applyR ⟨[a, b], c, d⟩ [r1, r2] ⟨6, day, 2, m, re⟩ = (⟨[a, b], c, d⟩, [r1, m], 0) := by
 have hmay := mayA2 (e := ⟨6, day, 2, m, re⟩) hp h1 h2 (by show (1 : Int) ≤ 6 ∧ (6 : Int) ≤ 6; omega) (.inr (by show (1 : Int) ≤ 2 ∧ (2 : Int) ≤ 2; omega)) (fun _ => hm)
 unfold applyR
 rw [if_pos hmay]
 have hq2 : applyQ ⟨[a, b], c, d⟩ [r1, r2] ⟨6, day, 2, m, re⟩ = (⟨[a, b], c, d⟩, 0) := by
  unfold applyQ
  rw [if_neg (by show ¬ ((6 : Int) = 1 ∨ (6 : Int) = 5); omega), if_neg (by show ¬ (6 : Int) = 2; omega), if_neg (by show ¬ ((6 : Int) = 3 ∨ (6 : Int) = 4); omega)]
 rw [hq2]
 simp only [if_true, applyRt]
 rfl
theorem rep_app (k j : Nat) (a : Int) : List.replicate k a ++ List.replicate j a = List.replicate (k + j) a := by rw [List.replicate_append_replicate]
def raT (A R : Int) (D : Nat) : List Ev := [⟨1, 10957, 2, A, 0⟩, ⟨6, 10957 + D, 2, R, 0⟩]
theorem rates_walk {A R : Int} {D : Nat} (hA : 1 ≤ A ∧ A ≤ 1000000000) (hR : 0 ≤ R ∧ R < 3000000) (hD : D ≤ 30) :
  ∃ s X l1 v, walkR tF (raT A R D) 10988 = (s, 0) ∧ s.R = [1000000, R] ∧ s.p.bal.length = 2 ∧ s.out = [X] ∧ X.lines = [l1, ⟨A + v, v, R⟩] ∧ ofR (List.replicate 31 A) (List.replicate D 2000000 ++ List.replicate (31 - D) R) = (v, 0) := by
 have p0 : Ps.rightB ⟨[0, 0], 0, 0⟩ = true := by decide +kernel
 have p1 : Ps.rightB ⟨[0, A], 0, 0⟩ = true := right2 (by omega) (by omega) (by omega) (by omega) (by omega) (.inl rfl)
 have m0 : minI A 0 = 0 := by unfold minI; rw [if_neg (by omega)]
 have hx : ([] ++ List.replicate D A ++ List.replicate (30 - D) A) ++ [A] = List.replicate 31 A := by
  rw [List.nil_append, rep_app, rep_snoc]
  congr 1
  omega
 have hy : ([] ++ List.replicate D (2000000 : Int) ++ List.replicate (30 - D) R) ++ [R] = List.replicate D 2000000 ++ List.replicate (31 - D) R := by
  rw [List.nil_append, List.append_assoc, rep_snoc]
  congr 2
  omega
 obtain ⟨e1, e2, e3, e4⟩ := ofR_ok (X := List.replicate 31 A) (Y := List.replicate D 2000000 ++ List.replicate (31 - D) R) (A := A) (by omega) (by omega) (by simp) (all_of (by omega)) (all_app (all_of (by omega)) (all_of (by omega)))
 obtain ⟨v, hv⟩ : ∃ v, ofR (List.replicate 31 A) (List.replicate D 2000000 ++ List.replicate (31 - D) R) = (v, 0) := ⟨_, by rw [← e1]⟩
 rw [hv] at e2 e3
 simp only at e2 e3
 have hc := closeF (T := raT A R D) (i := 2) (day := 10987) (a := 0) (b := A) (du := 0) (r1 := 1000000) (r2 := R) (fr := 10957) (te := 10987) (x1 := ([] ++ List.replicate D 0 ++ List.replicate (30 - D) 0) ++ [0]) (x2 := ([] ++ List.replicate D A ++ List.replicate (30 - D) A) ++ [A]) (y1 := ([] ++ List.replicate D 1000000 ++ List.replicate (30 - D) 1000000) ++ [1000000]) (y2 := ([] ++ List.replicate D 2000000 ++ List.replicate (30 - D) R) ++ [R]) (out := []) (g := true) (v1 := 0) (v2 := v) rfl (.inl ⟨rfl, rfl⟩) (by rw [hx, hy]; exact hv) (by omega) (by omega) (by omega) (by omega) (by omega) (by omega)
 refine ⟨st2 2 10988 (0 + 0) (A + v) 0 (leastI 25 20 (0 + 0 + (A + v))) 1000000 R [] [] [] [] ([] ++ [⟨((([] : List Stm).length : Nat) : Int) + 1, 10957, 10987, 10987 + 20, 0 + 0 + (A + v), 0, leastI 25 20 (0 + 0 + (A + v)), true, [⟨0 + 0, 0, 1000000⟩, ⟨A + v, v, R⟩]⟩]), _, ⟨0 + 0, 0, 1000000⟩, v, walkF ?_ (by simp [raT]) (by omega) (by decide +kernel) (by simp [raT, Sorted]; omega) ?_, rfl, rfl, rfl, rfl, hv⟩
 ·intro x hx
  simp only [raT, List.mem_cons, List.not_mem_nil, or_false] at hx
  rcases hx with rfl | rfl
  ·exact ⟨evErrF (by omega) (by omega) (by omega) (by omega) (by omega), by show (10957 : Int) ≤ _; omega⟩
  ·exact ⟨evErrF (by omega) (by omega) (by omega) (by omega) (by omega), by show 10957 + (D : Int) ≤ _; omega⟩
 ·rw [show allL 10957 1 10988 = [(10957, 10987), (10988, 11016)] by decide +kernel, show (10988 - 10957 : Int).toNat = (31 - D) + D by omega]
  refine walkD_ev1 (e := ⟨1, 10957, 2, A, 0⟩) rfl rfl (charge2 (a' := 0) (b' := A) (c' := 0) p0 (by omega) (by omega) (.inl rfl) (by omega) (.inr ⟨rfl, rfl, by rw [m0]; omega⟩) (by rw [m0]; rfl) p1) ?_ rfl
  show walkD tF (raT A R D) 2 (31 - D + D) [(10957, 10987), (10988, 11016)] (st2 1 10957 0 A 0 0 1000000 2000000 [] [] [] [] []) = _
  rw [walkD_quiet (31 - D) D 10957 _ _ _ _ (by intro x hx; simp only [raT, List.getElem?_cons_succ, List.getElem?_cons_zero, Option.some.injEq] at hx; subst hx; show (10957 : Int) + D ≤ 10957 + D; omega) (by omega)]
  refine walkD_ev1 (e := ⟨6, 10957 + D, 2, R, 0⟩) rfl rfl (rate2 p1 (by omega) (by omega) (by omega)) ?_ rfl
  show walkD tF (raT A R D) 2 (31 - D) [(10957, 10987), (10988, 11016)] (st2 2 (10957 + D) 0 A 0 0 1000000 R ([] ++ List.replicate D 0) ([] ++ List.replicate D A) ([] ++ List.replicate D 1000000) ([] ++ List.replicate D 2000000) []) = _
  rw [show 31 - D = 1 + (30 - D) by omega, walkD_quiet 1 (30 - D) (10957 + D) _ _ _ _ (by intro x hx; simp [raT] at hx) (by omega), show (10957 : Int) + D + ((30 - D : Nat) : Int) = 10987 by omega]
  exact walkD_close rfl (by intro x hx; simp [raT] at hx) hc (walkD_stop (by intro x hx; simp [st2, raT] at hx))
theorem back_tail {T : List Ev} {i : Nat} {b : Int} {x1 x2 y1 y2 : List Int} (hT : T[i]? = none) (hb : 0 ≤ b ∧ b ≤ 1000000) (h1 : ∀ x ∈ x1, x = 0) (h2 : ∀ x ∈ x2, 0 ≤ x ∧ x ≤ 1000000) (hl : x2.length = 30) (hy : ∀ y ∈ y2, 0 ≤ y ∧ y ≤ 3000000) :
  ∃ s X1 X2 l1 v, walkD tF T 2 33 [(10957, 10987), (10988, 11016), (11017, 11047)] (st2 i 10987 0 b 0 0 1000000 2000000 x1 x2 y1 y2 []) = (s, 0) ∧ s.p.bal.length = 2 ∧ s.out = [X1, X2] ∧ X1.total = b + v ∧ X1.lines = [l1, ⟨b + v, v, 2000000⟩] ∧ ofR (x2 ++ [b]) (y2 ++ [2000000]) = (v, 0) := by
 have hno : ∀ x, T[i]? = some x → False := fun x hx => by rw [hT] at hx; cases hx
 obtain ⟨e1, e2, e3, e4⟩ := ofR_ok (X := x2 ++ [b]) (Y := y2 ++ [2000000]) (A := 1000000) (by omega) (by omega) (by rw [List.length_append, hl]; simp) (all_app h2 (all_one (by omega))) (all_app hy (all_one (by omega)))
 obtain ⟨v, hv⟩ : ∃ v, ofR (x2 ++ [b]) (y2 ++ [2000000]) = (v, 0) := ⟨_, by rw [← e1]⟩
 rw [hv] at e2 e3
 simp only at e2 e3
 have hc1 := closeF (T := T) (i := i) (day := 10987) (a := 0) (b := b) (du := 0) (r1 := 1000000) (r2 := 2000000) (fr := 10957) (te := 10987) (x1 := x1 ++ [0]) (x2 := x2 ++ [b]) (y1 := y1 ++ [1000000]) (y2 := y2 ++ [2000000]) (out := []) (g := true) (v1 := 0) (v2 := v) rfl (.inl ⟨rfl, rfl⟩) hv (by omega) (by omega) (by omega) (by omega) (by omega) (by omega)
 obtain ⟨du, hdu⟩ : ∃ du, leastI 25 20 (0 + 0 + (b + v)) = du := ⟨_, rfl⟩
 have hdu2 : 0 ≤ du ∧ du ≤ 0 + 0 + (b + v) := by rw [← hdu]; exact leastI_bd (by omega) (by omega)
 rw [hdu] at hc1
 obtain ⟨X1, hX1⟩ : ∃ X : Stm, (⟨((([] : List Stm).length : Nat) : Int) + 1, 10957, 10987, 10987 + 20, 0 + 0 + (b + v), 0, du, true, [⟨0 + 0, 0, 1000000⟩, ⟨b + v, v, 2000000⟩]⟩ : Stm) = X := ⟨_, rfl⟩
 rw [hX1] at hc1
 obtain ⟨g, hg⟩ : ∃ g, freeB ([] ++ [X1]) 10988 T = g := ⟨_, rfl⟩
 obtain ⟨f1, f2, f3, f4⟩ := ofR_ok (X := ([] ++ List.replicate 28 (b + v)) ++ [b + v]) (Y := ([] ++ List.replicate 28 (2000000 : Int)) ++ [2000000]) (A := 2000000) (by omega) (by omega) (by simp) (all_app (all_app (by simp) (all_of (by omega))) (all_one (by omega))) (all_app (all_app (by simp) (all_of (by omega))) (all_one (by omega)))
 obtain ⟨u, hu⟩ : ∃ u, ofR (([] ++ List.replicate 28 (b + v)) ++ [b + v]) (([] ++ List.replicate 28 (2000000 : Int)) ++ [2000000]) = (u, 0) := ⟨_, by rw [← f1]⟩
 rw [hu] at f2 f3
 simp only at f2 f3
 have hz1 : ofR (([] ++ List.replicate 28 0) ++ [0]) (([] ++ List.replicate 28 1000000) ++ [1000000]) = (0, 0) := ofR_zero (all_app (all_app (by simp) (all_of rfl)) (all_one rfl))
 have hv1 : (g = true ∧ (0 : Int) = 0) ∨ (g = false ∧ ofR (([] ++ List.replicate 28 0) ++ [0]) (([] ++ List.replicate 28 1000000) ++ [1000000]) = ((0 : Int), 0)) := by
  cases g
  ·exact .inr ⟨rfl, hz1⟩
  ·exact .inl ⟨rfl, rfl⟩
 have hc2 := closeF (T := T) (i := i) (day := 11016) (a := 0 + 0) (b := b + v) (du := du) (r1 := 1000000) (r2 := 2000000) (fr := 10988) (te := 11016) (x1 := ([] ++ List.replicate 28 0) ++ [0]) (x2 := ([] ++ List.replicate 28 (b + v)) ++ [b + v]) (y1 := ([] ++ List.replicate 28 1000000) ++ [1000000]) (y2 := ([] ++ List.replicate 28 2000000) ++ [2000000]) (out := [] ++ [X1]) (g := g) (v1 := 0) (v2 := u) hg hv1 hu (by omega) (by omega) (by omega) (by omega) (by omega) (by omega)
 refine ⟨st2 i 11020 (0 + 0 + 0) (b + v + u) 0 (leastI 25 20 (0 + 0 + 0 + (b + v + u))) 1000000 2000000 ([] ++ List.replicate 3 (0 + 0 + 0)) ([] ++ List.replicate 3 (b + v + u)) ([] ++ List.replicate 3 1000000) ([] ++ List.replicate 3 2000000) ([] ++ [X1] ++ [⟨((([] ++ [X1] : List Stm).length : Nat) : Int) + 1, 10988, 11016, 11016 + 20, 0 + 0 + 0 + (b + v + u), 0, leastI 25 20 (0 + 0 + 0 + (b + v + u)), g, [⟨0 + 0 + 0, 0, 1000000⟩, ⟨b + v + u, u, 2000000⟩]⟩]), X1, ⟨((([] ++ [X1] : List Stm).length : Nat) : Int) + 1, 10988, 11016, 11016 + 20, 0 + 0 + 0 + (b + v + u), 0, leastI 25 20 (0 + 0 + 0 + (b + v + u)), g, [⟨0 + 0 + 0, 0, 1000000⟩, ⟨b + v + u, u, 2000000⟩]⟩, ⟨0 + 0, 0, 1000000⟩, v, ?_, ?_, ?_, by rw [← hX1]; show 0 + 0 + (b + v) = b + v; omega, by rw [← hX1], hv⟩
 ·rw [show 33 = 32 + 1 by omega]
  refine walkD_close rfl (fun x hx => (hno x hx).elim) hc1 ?_
  rw [show 32 = 4 + 28 by omega, show (10987 : Int) + 1 = 10988 by omega]
  rw [walkD_quiet 4 28 10988 _ _ _ _ (fun x hx => (hno x hx).elim) (by omega), show (10988 : Int) + ((28 : Nat) : Int) = 11016 by omega, show 4 = 3 + 1 by omega]
  refine walkD_close rfl (fun x hx => (hno x hx).elim) hc2 ?_
  rw [show 3 = 0 + 3 by omega, show (11016 : Int) + 1 = 11017 by omega, walkD_quiet 0 3 11017 _ _ _ _ (fun x hx => (hno x hx).elim) (by omega)]
  exact walkD_stop (fun x hx => (hno x hx).elim)
 ·rfl
 ·rfl
def bkT (A B : Int) (D : Nat) : List Ev := [⟨1, 10957, 2, A, 0⟩] ++ if 0 < B then [⟨3, 10957 + D, 2, B, 0⟩] else []
theorem back_walk {A B : Int} {D : Nat} (hA : 1 ≤ A ∧ A ≤ 1000000) (hB : 0 ≤ B ∧ B ≤ A) (hD : D ≤ 30) :
  ∃ s X1 X2 l1 v, walkR tF (bkT A B D) 11020 = (s, 0) ∧ s.p.bal.length = 2 ∧ s.out = [X1, X2] ∧ X1.total = A - B + v ∧ X1.lines = [l1, ⟨A - B + v, v, 2000000⟩] ∧ ofR (List.replicate D A ++ List.replicate (31 - D) (A - B)) (List.replicate 31 2000000) = (v, 0) := by
 have p0 : Ps.rightB ⟨[0, 0], 0, 0⟩ = true := by decide +kernel
 have p1 : Ps.rightB ⟨[0, A], 0, 0⟩ = true := right2 (by omega) (by omega) (by omega) (by omega) (by omega) (.inl rfl)
 have p2 : Ps.rightB ⟨[0, A - B], 0, 0⟩ = true := right2 (by omega) (by omega) (by omega) (by omega) (by omega) (.inl rfl)
 have m0 : minI A 0 = 0 := by unfold minI; rw [if_neg (by omega)]
 have hst : ∀ {Z : St × Int}, walkD tF (bkT A B D) 2 (33 + 30) [(10957, 10987), (10988, 11016), (11017, 11047)] (st2 1 10957 0 A 0 0 1000000 2000000 [] [] [] [] []) = Z → Z.2 = 0 → walkR tF (bkT A B D) 11020 = Z := fun {Z} h hz => by
  refine walkF ?_ (by unfold bkT; split <;> simp) (by omega) (by decide +kernel) (by unfold bkT; split <;> simp [Sorted]; omega) ?_
  ·intro x hx
   unfold bkT at hx
   by_cases h0 : 0 < B
   ·rw [if_pos h0] at hx
    simp only [List.cons_append, List.nil_append, List.mem_cons, List.not_mem_nil, or_false] at hx
    rcases hx with rfl | rfl
    ·exact ⟨evErrF (by omega) (by omega) (by omega) (by omega) (by omega), by show (10957 : Int) ≤ _; omega⟩
    ·exact ⟨evErrF (by omega) (by omega) (by omega) (by omega) (by omega), by show 10957 + (D : Int) ≤ _; omega⟩
   ·rw [if_neg h0] at hx
    simp only [List.append_nil, List.mem_singleton] at hx
    subst hx
    exact ⟨evErrF (by omega) (by omega) (by omega) (by omega) (by omega), by show (10957 : Int) ≤ _; omega⟩
  ·rw [show allL 10957 1 11020 = [(10957, 10987), (10988, 11016), (11017, 11047)] by decide +kernel, show (11020 - 10957 : Int).toNat = 33 + 30 by omega]
   exact walkD_ev1 (e := ⟨1, 10957, 2, A, 0⟩) rfl rfl (charge2 (a' := 0) (b' := A) (c' := 0) p0 (by omega) (by omega) (.inl rfl) (by omega) (.inr ⟨rfl, rfl, by rw [m0]; omega⟩) (by rw [m0]; rfl) p1) h hz
 have hs31 : List.replicate D A ++ List.replicate (31 - D) (A - B) = ([] ++ List.replicate D A ++ List.replicate (30 - D) (A - B)) ++ [A - B] := by
  rw [List.nil_append, List.append_assoc, rep_snoc]
  congr 2
  omega
 by_cases h0 : 0 < B
 ·have hT : (bkT A B D)[2]? = none := by unfold bkT; rw [if_pos h0]; rfl
  have hT1 : (bkT A B D)[1]? = some ⟨3, 10957 + D, 2, B, 0⟩ := by unfold bkT; rw [if_pos h0]; rfl
  obtain ⟨s, X1, X2, l1, v, t1, t2, t3, t4, t5, t6⟩ := back_tail (T := bkT A B D) (i := 2) (b := A - B) (x1 := [] ++ List.replicate D 0 ++ List.replicate (30 - D) 0) (x2 := [] ++ List.replicate D A ++ List.replicate (30 - D) (A - B)) (y1 := [] ++ List.replicate D 1000000 ++ List.replicate (30 - D) 1000000) (y2 := [] ++ List.replicate D 2000000 ++ List.replicate (30 - D) 2000000) hT (by omega)
   (all_app (all_app (by simp) (all_of rfl)) (all_of rfl)) (all_app (all_app (by simp) (all_of (by omega))) (all_of (by omega))) (by simp; omega) (all_app (all_app (by simp) (all_of (by omega))) (all_of (by omega)))
  refine ⟨s, X1, X2, l1, v, hst ?_ rfl, t2, t3, t4, t5, ?_⟩
  ·rw [show 33 + 30 = (63 - D) + D by omega, walkD_quiet (63 - D) D 10957 _ _ _ _ (by intro x hx; rw [hT1] at hx; injection hx with hx; subst hx; show (10957 : Int) + D ≤ 10957 + D; omega) (by omega)]
   refine walkD_ev1 (e := ⟨3, 10957 + D, 2, B, 0⟩) hT1 rfl (give2 (a' := 0) (b' := A - B) p1 (by omega) (by omega) (by omega) (by omega) (.inl rfl) (by omega) (.inr ⟨rfl, hB.2, rfl, rfl⟩) p2) ?_ rfl
   show walkD tF (bkT A B D) 2 (63 - D) [(10957, 10987), (10988, 11016), (11017, 11047)] (st2 2 (10957 + D) 0 (A - B) 0 0 1000000 2000000 ([] ++ List.replicate D 0) ([] ++ List.replicate D A) ([] ++ List.replicate D 1000000) ([] ++ List.replicate D 2000000) []) = _
   rw [show 63 - D = 33 + (30 - D) by omega, walkD_quiet 33 (30 - D) (10957 + D) _ _ _ _ (fun x hx => by rw [hT] at hx; cases hx) (by omega), show (10957 : Int) + D + ((30 - D : Nat) : Int) = 10987 by omega]
   exact t1
  ·rw [hs31]
   rw [show List.replicate 31 (2000000 : Int) = ([] ++ List.replicate D 2000000 ++ List.replicate (30 - D) 2000000) ++ [2000000] by rw [List.nil_append, rep_app, rep_snoc]; congr 1; omega]
   exact t6
 ·obtain rfl : B = 0 := by omega
  have hT : (bkT A 0 D)[1]? = none := by unfold bkT; rw [if_neg h0]; rfl
  obtain ⟨s, X1, X2, l1, v, t1, t2, t3, t4, t5, t6⟩ := back_tail (T := bkT A 0 D) (i := 1) (b := A) (x1 := [] ++ List.replicate 30 0) (x2 := [] ++ List.replicate 30 A) (y1 := [] ++ List.replicate 30 1000000) (y2 := [] ++ List.replicate 30 2000000) hT (by omega)
   (all_app (by simp) (all_of rfl)) (all_app (by simp) (all_of (by omega))) (by simp) (all_app (by simp) (all_of (by omega)))
  rw [show A - 0 = A by omega]
  refine ⟨s, X1, X2, l1, v, hst ?_ rfl, t2, t3, t4, t5, ?_⟩
  ·rw [walkD_quiet 33 30 10957 _ _ _ _ (fun x hx => by rw [hT] at hx; cases hx) (by omega), show (10957 : Int) + ((30 : Nat) : Int) = 10987 by omega]
   exact t1
  ·rw [rep_app, show D + (31 - D) = 30 + 1 by omega, ← rep_snoc, show List.replicate 31 (2000000 : Int) = ([] ++ List.replicate 30 2000000) ++ [2000000] by rw [List.nil_append, rep_snoc]]
   exact t6
end Go.Proofs.Ythcmpcekmkioaaa
namespace Go.Proofs.Ythcmpcekmkioaaa
open Go.RowKit
set_option maxRecDepth 100000 in
set_option maxHeartbeats 3200000 in
theorem replayBack_walk (w : World) (a : Int) (_ : (Lit.int .i64 a).wf = true) (b : Int) (_ : (Lit.int .i64 b).wf = true) (d : Int) (_ : (Lit.int .i64 d).wf = true) : Calls Try.prog 7 #[.int .i64 a, .int .i64 b, .int .i64 d] w fun e w' => e = .returned (.bool true) ∧ Below w.heap.size w w' := by
 obtain ⟨i0, hi, hi0, hi1, hi2⟩ := info_parts info_tInt64
 obtain ⟨j0, hj, hj0, hj1, hj2⟩ := info_parts info_tEvent
 obtain ⟨f0, hf0⟩ : ∃ r, (IntKind.u64.wrap a).tmod 1000000 = r := ⟨_, rfl⟩
 have hu : ∀ x, 0 ≤ IntKind.u64.wrap x := fun x => by rw [IntKind.wrap_u64]; omega
 have f1 : 0 ≤ f0 := by rw [← hf0]; exact Int.tmod_nonneg _ (hu a)
 have f2 : f0 < 1000000 := by rw [← hf0]; exact Int.tmod_lt_of_pos _ (by decide)
 obtain ⟨h0, hh0⟩ : ∃ r, (IntKind.u64.wrap b).tmod (1 + f0 + 1) = r := ⟨_, rfl⟩
 have h1 : 0 ≤ h0 := by rw [← hh0]; exact Int.tmod_nonneg _ (hu b)
 have h2 : h0 < 1 + f0 + 1 := by rw [← hh0]; exact Int.tmod_lt_of_pos _ (by omega)
 obtain ⟨dd, hd0⟩ : ∃ r, (IntKind.u64.wrap d).tmod 31 = r := ⟨_, rfl⟩
 have d1 : 0 ≤ dd := by rw [← hd0]; exact Int.tmod_nonneg _ (hu d)
 have d2 : dd < 31 := by rw [← hd0]; exact Int.tmod_lt_of_pos _ (by decide)
 obtain ⟨D, hD⟩ : ∃ D : Nat, dd = D := ⟨dd.toNat, by omega⟩
 subst hD
 have hwf : IntKind.u64.wrap (1 + f0 + 1) = 1 + f0 + 1 := by rw [IntKind.wrap_u64]; omega
 have hfn : (1 + f0 + 1 == 0) = false := beq_eq_false_iff_ne.2 (by omega)
 have hfn2 : ¬ 1 + f0 + 1 = 0 := by omega
 obtain ⟨s, X, X2, l1, v, hw, hn, ho, hXt, hX, hof⟩ := back_walk (A := 1 + f0) (B := h0) (D := D) ⟨by omega, by omega⟩ ⟨h1, by omega⟩ (by omega)
 have hbk : (bkT (1 + f0) h0 D).length = if 0 < h0 then 2 else 1 := by unfold bkT; split <;> rfl
 obtain ⟨si, sd, ⟨sb, sc, su⟩, sR, se0, se1, so⟩ := s
 obtain ⟨ya0, ya1, ya2, ya3, ya5, ya6, ya7, ya8, ya4⟩ := X
 simp only at hn ho hXt hX
 subst ho hXt hX
 obtain ⟨YA, hya⟩ : ∃ Y, List.replicate D (1 + f0) ++ List.replicate (31 - D) (1 + f0 - h0) = Y := ⟨_, rfl⟩
 obtain ⟨YB, hyb⟩ : ∃ Y, List.replicate 31 (2000000 : Int) = Y := ⟨_, rfl⟩
 have lb : YB.length = 31 := by rw [← hyb]; simp
 have la : YA.length = 31 := by rw [← hya]; exact mix_len D _ _ (by omega)
 have bb : ∀ x ∈ YB, 0 ≤ x ∧ x ≤ 10000000 := fun x hx => by rw [← hyb] at hx; rw [(List.mem_replicate.1 hx).2]; omega
 have ba : ∀ x ∈ YA, 0 ≤ x ∧ x ≤ 1000000000000000 := by rw [← hya]; exact mix_all (by omega) (by omega)
 have tb : ∀ k, k < 31 → YB.take (k + 1) = YB.take k ++ [2000000] := fun k hk => by rw [← hyb]; exact rep_take 31 k _ hk
 have ta : ∀ k : Nat, k < 31 → YA.take (k + 1) = YA.take k ++ [if (k : Int) < D then 1 + f0 else 1 + f0 - h0] := fun k hk => by rw [← hya]; exact mixT_take D k _ _ (by omega) hk
 rw [hya, hyb] at hof
 have hv0 := (ofR_ok (X := YA) (Y := YB) (A := 1000000000) (by omega) (by omega) (by omega) (by rw [← hya]; exact mix_all (by omega) (by omega)) (by rw [← hyb]; exact fun x hx => by rw [(List.mem_replicate.1 hx).2]; omega))
 rw [hof] at hv0
 obtain ⟨_, v0, v1, _⟩ := hv0
 simp only at v0 v1
 clear hya hyb
 by_cases hB : 0 < h0
 ·rw [if_pos hB] at hbk
  have hrun := fun ad1 ad2 c W h1 h2 => repRun_any tF ad1 2 2 (bkT (1 + f0) h0 D) ad2 c 2 11020 W rfl h1 hbk h2 (by decide) (by decide)
  rw [hw] at hrun
  simp only [tF] at hrun
  have hws : IntKind.i64.wrap (10957 + (D : Int)) = 10957 + D := by rw [IntKind.wrap_i64]; omega
  clear hw
  obtain ⟨Hi, Hi0, Hi1, Hi2, Hj, Hj0, Hj1, Hj2, Hrun⟩ := hid9 hi hi0 hi1 hi2 hj hj0 hj1 hj2 hrun; clear hrun hj2 hj1 hj0 hj hi2 hi1 hi0 hi; obtain ⟨Hu, Hof, La, Lb, Ba, Bb, Ta, Tb, Hn⟩ := hid9 hu hof la lb ba bb ta tb hn; clear hn tb ta bb ba lb la hof hu; have Hbk := Lib.hid hbk; clear hbk
  go_enter Try.func7, Try.ntmps7
  go_wp2_with (go_at_call 21; (with_reducible refine (flat19_any _).mono ?_); rintro e w1 ⟨TB, rfl, hr1, hk1⟩; have Hr1 := Lib.hid hr1; have Hk1 := Lib.hid hk1; clear hr1 hk1; refine haltW ?_)
  refine Lib.hid ?_
  go_upto_region 6 with fail
  obtain ⟨W2, hW2⟩ : ∃ x, x = (w1.alloc (.cells #[.int .i64 1000000000000000, .slice (some ⟨TB, 0, none⟩) 2 2, .int .i64 1, .int .i64 20, .int .i64 25, .int .i64 20, .int .i64 10957] 24)).alloc (.cells #[.int .i64 1, .int .i64 10957, .int .i64 2, .int .i64 (1 + f0), .int .i64 0] 54) := ⟨_, rfl⟩
  have htb2 : W2.heap[w1.heap.size]? = some (.cells #[.int .i64 1000000000000000, .slice (some ⟨TB, 0, none⟩) 2 2, .int .i64 1, .int .i64 20, .int .i64 25, .int .i64 20, .int .i64 10957] 24 (0, 0)) := by rw [hW2]; exact box_alloc (heap_alloc_new w1 _) _
  have hbv2 : W2.heap[w1.heap.size + 1]? = some (.cells #[.int .i64 1, .int .i64 10957, .int .i64 2, .int .i64 (1 + f0), .int .i64 0] 54 (0, 0)) := by rw [hW2]; exact halloc_at2 (i := w1.heap.size + 1) _ _ (by simp)
  have hev2 : W2.ownsRow 0 54 5 (.slice (some ⟨w1.heap.size + 1, 0, none⟩) 1 1) 1 ([(⟨1, 10957, 2, 1 + f0, 0⟩ : Ev)].flatMap Ev.cells) := ⟨rfl, .inr ⟨_, 1, _, rfl, Nat.zero_le _, hbv2, Nat.le_refl _, by unfold maxLen; omega, rfl, rfl⟩⟩
  have htr2 : Reads w1 2 (.slice (some ⟨TB, 0, none⟩) 2 2) 2 (tF.trs.flatMap Tn.cells) := Hr1.out
  have hk12 : Keeps (fun _ => False) w1 W2 := by rw [hW2]; exact (Keeps.alloc _ _).trans_alloc
  have hk2 : Keeps (fun _ => False) w w1 := Hk1.out
  rw [← hW2]
  clear hW2
  have t0 := cell_of_cells (htb2) 0
  have t1 := cell_of_cells (htb2) 1
  have t2 := cell_of_cells (htb2) 2
  have t3 := cell_of_cells (htb2) 3
  have t4 := cell_of_cells (htb2) 4
  have t5 := cell_of_cells (htb2) 5
  have t6 := cell_of_cells (htb2) 6
  have tl := lt_of_block (htb2)
  obtain ⟨Htb2, Hbv2, Hev2, Htr2, Hk12, Hk2⟩ := hid6 htb2 hbv2 hev2 htr2 hk12 hk2; clear hk2 hk12 htr2 hev2 hbv2 htb2
  go_wp2_with (at_builtin; refine wpList_append_row rfl (.tmp 43) (.tmp 50) 25 rfl 0 54 j0 _ 5 40 Try.underlying25 Hj.out Hj0.out Hj1.out Hj2.out rfl (by decide) (.slice (some ⟨w1.heap.size + 1, 0, none⟩) 1 1) 1 _ rfl (Hev2.out.alloc _) _ 1 _ rfl (Reads.litAt _ _ _ 5 1 _ (by first | rfl | simp) rfl) (by simp [Value.oneCell']) (by unfold maxLen; omega) (by omega) (Nat.zero_le _) ?_; intro v7 w7 hown7 hk7 hf7; obtain ⟨a7, c7, rfl, _, _⟩ := ownsRow_shape hown7; have Hown7 := Lib.hid hown7; have Hk7 := Lib.hid hk7; clear hown7 hk7 hf7; refine haltW ?_)
  refine Lib.hid ?_
  clear t0 t1 t2 t3 t4 t5 t6 tl
  have hk27 : Keeps (fun i => i = w1.heap.size + 1) W2 w7 := (Keeps.alloc _ _).trans (Hk7.out.mono fun i _ e => .inl (by have e' : (Value.slice (some ⟨w1.heap.size + 1, 0, none⟩) 1 1).ownBlock = some i := e; simp only [Value.ownBlock, Option.some.injEq] at e'; exact e'.symm))
  have htb7 := box_old Htb2.out hk27 (by show ¬ w1.heap.size = w1.heap.size + 1; omega)
  have hk17 : Keeps (fun _ => False) w1 w7 := Hk12.out.trans (hk27.mono fun i _ e => .inr (by have e' : i = w1.heap.size + 1 := e; omega))
  have hev7 : Reads w7 5 (.slice a7 2 c7) 2 ((bkT (1 + f0) h0 D).flatMap Ev.cells) := by
   unfold bkT
   rw [if_pos hB]
   exact Reads.of_owns Hown7.out
  have t0 := cell_of_cells (htb7) 0
  have t1 := cell_of_cells (htb7) 1
  have t2 := cell_of_cells (htb7) 2
  have t3 := cell_of_cells (htb7) 3
  have t4 := cell_of_cells (htb7) 4
  have t5 := cell_of_cells (htb7) 5
  have t6 := cell_of_cells (htb7) 6
  have tl := lt_of_block (htb7)
  obtain ⟨Hk27, Htb7, Hev7, Hk17⟩ := hid4 hk27 htb7 hev7 hk17; clear hk17 hev7 htb7 hk27
  go_wp2_with fail
  refine (Hrun.out (some ⟨TB, 0, none⟩) a7 c7 _ (Htr2.out.keeps (Hk17.out) (by simp)) (Hev7.out)).mono ?_
  clear t0 t1 t2 t3 t4 t5 t6 tl
  rintro e w2 (⟨hz, vb, vr, vo, Q, rfl, hres⟩ | ⟨hz, _⟩)
  rotate_left
  ·exact absurd rfl hz
  obtain ⟨xa, xc, xa', xc', rfl⟩ := map_two hres.lp
  obtain ⟨ab, cb, rfl, _⟩ := ownsRow_shape hres.bal
  have hs : w2.ownsRow 0 49 9 vo 2 _ := hres.out
  have hl : w2.ownsRow 0 56 3 (.slice xa 2 xc) 2 ([l1, ⟨1 + f0 - h0 + v, v, 2000000⟩].flatMap Ln.cells) := hres.ln ⟨_, xa, xc⟩ (List.mem_cons_self ..)
  obtain ⟨gs, cs, rfl, _⟩ := owns_some hs (by decide)
  obtain ⟨gl, cl, hle, _⟩ := owns_some hl (by decide)
  simp only [Value.slice.injEq, true_and] at hle
  obtain ⟨rfl, rfl⟩ := hle
  have hkr : Keeps (fun _ => False) w w2 := (Hk2.out.nt (Hk17.out)).nt hres.kp
  obtain ⟨Hs, Hl, Hres, Hkr⟩ := hid4 hs hl hres hkr; clear hkr hres hl hs
  go_wp2_with (go_at_call 11; (with_reducible refine (awake19_any _).mono ?_); rintro e w3 ⟨rfl, hk3⟩; have Hk3 := Lib.hid hk3; clear hk3; refine haltW ?_)
  refine Lib.hid ?_
  have hk23 : Keeps (fun _ => False) w2 w3 := (Keeps.alloc w2 _).nt Hk3.out
  have Hk23 := Lib.hid hk23; clear hk23
  go_wp2
  go_loopw [13, 14, 15] (fun x y z wx => ∃ (k : Nat) (va vd : Value), va = x ∧ vd = y ∧ z = .int .i64 (k : Nat) ∧ k ≤ 31 ∧ TwoR w3 wx (YA.take k) (YB.take k) va vd) (fun _ _ z _ => 31 - (intOf z).toNat)
  case atStart => exact ⟨0, _, _, rfl, rfl, rfl, by decide, TwoR.nil w3⟩
  case round =>
   obtain ⟨k, va, vd, rfl, rfl, rfl, hk, ht⟩ := hrel
   have hlA : (YA.take k).length = k := by rw [List.length_take, La.out]; omega
   have hlB : (YB.take k).length = k := by rw [List.length_take, Lb.out]; omega
   obtain ⟨aa, ca, rfl⟩ : ∃ a c, va = .slice a k c := by obtain ⟨a, c, h, _⟩ := ownsRow_shape ht.a; rw [hlA] at h; exact ⟨a, c, h⟩
   obtain ⟨ad, cd, rfl⟩ : ∃ a c, vd = .slice a k c := by obtain ⟨a, c, h, _⟩ := ownsRow_shape ht.b; rw [hlB] at h; exact ⟨a, c, h⟩
   by_cases hlt : k < 31
   ·have hltI : (k : Int) < 31 := by omega
    have hta := Ta.out k hlt
    have htb := Tb.out k hlt
    have hrA := ht.a
    rw [hlA] at hrA
    obtain ⟨wq, hwq⟩ : ∃ x, x = wr := ⟨_, rfl⟩
    subst hwq
    by_cases hkD : (k : Int) < D
    ·rw [if_pos hkD] at hta
     obtain ⟨Ht, Hta, Htb, HrA, HlA, HlB⟩ := hid6 ht hta htb hrA hlA hlB; clear hlB hlA hrA htb hta ht
     go_wp2_with (first
      | (at_builtin; refine wpList_append_row rfl (.tmp 82) (.tmp 84) 30 rfl 0 2 i0 _ 1 8 Try.underlying30 Hi.out Hi0.out Hi1.out Hi2.out rfl (by decide) (.slice aa k ca) k _ rfl (HrA.out.alloc _) _ 1 _ rfl (Reads.litAt _ _ _ 1 1 _ (by first | rfl | simp) rfl) (by simp [Value.oneCell']) (by unfold maxLen; omega) (by omega) (Nat.zero_le _) ?_; intro v4 w4 hown4 hk4 hf4; have ht4 := (Ht.out.keep (Keeps.alloc _ _)).app (x := 1 + f0) (by rw [HlA.out]) (by rw [List.flatMap_append]; exact hown4) hk4 hf4; rw [← Hta.out] at ht4; obtain ⟨a4, c4, rfl, _, _⟩ := ownsRow_shape hown4; have hrB := ht4.b; rw [HlB.out] at hrB; have HrB := Lib.hid hrB; have Ht4 := Lib.hid ht4; clear hown4 hk4 hf4 ht4 hrB)
      | (at_builtin; refine wpList_append_row rfl (.tmp 86) (.tmp 87) 30 rfl 0 2 i0 _ 1 8 Try.underlying30 Hi.out Hi0.out Hi1.out Hi2.out rfl (by decide) (.slice ad k cd) k _ rfl (HrB.out.alloc _) _ 1 _ rfl (Reads.litAt _ _ _ 1 1 _ (by first | rfl | simp) rfl) (by simp [Value.oneCell']) (by unfold maxLen; omega) (by omega) (Nat.zero_le _) ?_; intro v5 w5 hown5 hk5 hf5; have ht5 := ((Ht4.out.keep (Keeps.alloc _ _)).swap.app (x := 2000000) (by rw [HlB.out]) (by rw [List.flatMap_append]; exact hown5) hk5 hf5).swap; rw [← Htb.out] at ht5; obtain ⟨a5, c5, rfl, _, _⟩ := ownsRow_shape hown5; have Ht5 := Lib.hid ht5; clear hown5 hk5 hf5 ht5))
     go_roundw
     case rel => exact ⟨k + 1, _, _, rfl, rfl, by go_num, by omega, Ht5.out⟩
     case measure => simp [intOf]; omega
    ·rw [if_neg hkD] at hta
     obtain ⟨Ht, Hta, Htb, HrA, HlA, HlB⟩ := hid6 ht hta htb hrA hlA hlB; clear hlB hlA hrA htb hta ht
     go_wp2_with (first
      | (at_builtin; refine wpList_append_row rfl (.tmp 82) (.tmp 84) 30 rfl 0 2 i0 _ 1 8 Try.underlying30 Hi.out Hi0.out Hi1.out Hi2.out rfl (by decide) (.slice aa k ca) k _ rfl (HrA.out.alloc _) _ 1 _ rfl (Reads.litAt _ _ _ 1 1 _ (by first | rfl | simp) rfl) (by simp [Value.oneCell']) (by unfold maxLen; omega) (by omega) (Nat.zero_le _) ?_; intro v4 w4 hown4 hk4 hf4; have ht4 := (Ht.out.keep (Keeps.alloc _ _)).app (x := 1 + f0 - h0) (by rw [HlA.out]) (by rw [List.flatMap_append]; exact hown4) hk4 hf4; rw [← Hta.out] at ht4; obtain ⟨a4, c4, rfl, _, _⟩ := ownsRow_shape hown4; have hrB := ht4.b; rw [HlB.out] at hrB; have HrB := Lib.hid hrB; have Ht4 := Lib.hid ht4; clear hown4 hk4 hf4 ht4 hrB)
      | (at_builtin; refine wpList_append_row rfl (.tmp 86) (.tmp 87) 30 rfl 0 2 i0 _ 1 8 Try.underlying30 Hi.out Hi0.out Hi1.out Hi2.out rfl (by decide) (.slice ad k cd) k _ rfl (HrB.out.alloc _) _ 1 _ rfl (Reads.litAt _ _ _ 1 1 _ (by first | rfl | simp) rfl) (by simp [Value.oneCell']) (by unfold maxLen; omega) (by omega) (Nat.zero_le _) ?_; intro v5 w5 hown5 hk5 hf5; have ht5 := ((Ht4.out.keep (Keeps.alloc _ _)).swap.app (x := 2000000) (by rw [HlB.out]) (by rw [List.flatMap_append]; exact hown5) hk5 hf5).swap; rw [← Htb.out] at ht5; obtain ⟨a5, c5, rfl, _, _⟩ := ownsRow_shape hown5; have Ht5 := Lib.hid ht5; clear hown5 hk5 hf5 ht5))
     go_roundw
     case rel => exact ⟨k + 1, _, _, rfl, rfl, by go_num, by omega, Ht5.out⟩
     case measure => simp [intOf]; omega
   ·obtain rfl : k = 31 := by omega
    rw [List.take_of_length_le (by rw [La.out]; exact Nat.le_refl _), List.take_of_length_le (by rw [Lb.out]; exact Nat.le_refl _)] at ht
    have hra := Reads.of_owns ht.a
    have hrb := Reads.of_owns ht.b
    rw [La.out] at hra
    rw [Lb.out] at hrb
    have hOf := r13Of_any YA YB aa ad ca cd 31 wr hra La.out hrb Lb.out (by decide) Ba.out Bb.out
    rw [Hof.out] at hOf
    obtain ⟨Ht, Hra, Hrb, HOf, HlA, HlB⟩ := hid6 ht hra hrb hOf hlA hlB; clear hlB hlA hOf hrb hra ht
    go_wp2_with (go_at_call 22; (with_reducible refine HOf.out.mono ?_); rintro e w9 ⟨rfl, hk9⟩; have Hk9 := Lib.hid hk9; clear hk9; refine haltW ?_)
    refine Lib.hid ?_
    have hk29 : Keeps (fun _ => False) w2 w9 := (Hk23.out.nt Ht.out.kp).nt Hk9.out
    have hs3 := Hs.out.of_keeps hk29
    have hl3 := Hl.out.of_keeps hk29
    have m0 : (w9).cell? ⟨gs, 0 * 9 + 0, none⟩ = _ := owns_elem SV.cells_length hs3 (k := 0) rfl 0 (by decide)
    have m1 : (w9).cell? ⟨gs, 0 * 9 + 1, none⟩ = _ := owns_elem SV.cells_length hs3 (k := 0) rfl 1 (by decide)
    have m2 : (w9).cell? ⟨gs, 0 * 9 + 2, none⟩ = _ := owns_elem SV.cells_length hs3 (k := 0) rfl 2 (by decide)
    have m3 : (w9).cell? ⟨gs, 0 * 9 + 3, none⟩ = _ := owns_elem SV.cells_length hs3 (k := 0) rfl 3 (by decide)
    have m4 : (w9).cell? ⟨gs, 0 * 9 + 4, none⟩ = _ := owns_elem SV.cells_length hs3 (k := 0) rfl 4 (by decide)
    have m5 : (w9).cell? ⟨gs, 0 * 9 + 5, none⟩ = _ := owns_elem SV.cells_length hs3 (k := 0) rfl 5 (by decide)
    have m6 : (w9).cell? ⟨gs, 0 * 9 + 6, none⟩ = _ := owns_elem SV.cells_length hs3 (k := 0) rfl 6 (by decide)
    have m7 : (w9).cell? ⟨gs, 0 * 9 + 7, none⟩ = _ := owns_elem SV.cells_length hs3 (k := 0) rfl 7 (by decide)
    have m8 : (w9).cell? ⟨gs, 0 * 9 + 8, none⟩ = _ := owns_elem SV.cells_length hs3 (k := 0) rfl 8 (by decide)
    simp only [SV.cells, SV.v, Nat.reduceMul, Nat.reduceAdd, List.getElem?_cons_zero, List.getElem?_cons_succ, List.length_cons, List.length_nil] at m0 m1 m2 m3 m4 m5 m6 m7 m8
    have n1 : w9.cell? ⟨gl, 4, none⟩ = some (.int .i64 v) := owns_elem Ln.cells_length hl3 (k := 1) (x := ⟨1 + f0 - h0 + v, v, 2000000⟩) rfl 1 (by decide)
    have ml := cell_lt m0
    have nl := cell_lt n1
    have hkf := Hkr.out.nt hk29
    obtain ⟨Hk29, Hs3, Hl3, Hkf⟩ := hid4 hk29 hs3 hl3 hkf; clear hkf hl3 hs3 hk29
    go_wp2
    go_ret
    exact ⟨rfl, Hkf.out.below (by simp) (Nat.le_refl _)⟩
 ·rw [if_neg hB] at hbk
  have hrun := fun ad1 ad2 W h1 h2 => repRun_any tF ad1 2 2 (bkT (1 + f0) h0 D) ad2 1 1 11020 W rfl h1 hbk h2 (by decide) (by decide)
  rw [hw] at hrun
  simp only [tF] at hrun
  clear hw
  obtain ⟨Hi, Hi0, Hi1, Hi2, Hj, Hj0, Hj1, Hj2, Hrun⟩ := hid9 hi hi0 hi1 hi2 hj hj0 hj1 hj2 hrun; clear hrun hj2 hj1 hj0 hj hi2 hi1 hi0 hi; obtain ⟨Hu, Hof, La, Lb, Ba, Bb, Ta, Tb, Hn⟩ := hid9 hu hof la lb ba bb ta tb hn; clear hn tb ta bb ba lb la hof hu; have Hbk := Lib.hid hbk; clear hbk
  go_enter Try.func7, Try.ntmps7
  go_wp2_with (go_at_call 21; (with_reducible refine (flat19_any _).mono ?_); rintro e w1 ⟨TB, rfl, hr1, hk1⟩; have Hr1 := Lib.hid hr1; have Hk1 := Lib.hid hk1; clear hr1 hk1; refine haltW ?_)
  refine Lib.hid ?_
  go_upto_region 6 with fail
  obtain ⟨W2, hW2⟩ : ∃ x, x = (w1.alloc (.cells #[.int .i64 1000000000000000, .slice (some ⟨TB, 0, none⟩) 2 2, .int .i64 1, .int .i64 20, .int .i64 25, .int .i64 20, .int .i64 10957] 24)).alloc (.cells #[.int .i64 1, .int .i64 10957, .int .i64 2, .int .i64 (1 + f0), .int .i64 0] 54) := ⟨_, rfl⟩
  have htb2 : W2.heap[w1.heap.size]? = some (.cells #[.int .i64 1000000000000000, .slice (some ⟨TB, 0, none⟩) 2 2, .int .i64 1, .int .i64 20, .int .i64 25, .int .i64 20, .int .i64 10957] 24 (0, 0)) := by rw [hW2]; exact box_alloc (heap_alloc_new w1 _) _
  have hbv2 : W2.heap[w1.heap.size + 1]? = some (.cells #[.int .i64 1, .int .i64 10957, .int .i64 2, .int .i64 (1 + f0), .int .i64 0] 54 (0, 0)) := by rw [hW2]; exact halloc_at2 (i := w1.heap.size + 1) _ _ (by simp)
  have hev2 : W2.ownsRow 0 54 5 (.slice (some ⟨w1.heap.size + 1, 0, none⟩) 1 1) 1 ([(⟨1, 10957, 2, 1 + f0, 0⟩ : Ev)].flatMap Ev.cells) := ⟨rfl, .inr ⟨_, 1, _, rfl, Nat.zero_le _, hbv2, Nat.le_refl _, by unfold maxLen; omega, rfl, rfl⟩⟩
  have htr2 : Reads w1 2 (.slice (some ⟨TB, 0, none⟩) 2 2) 2 (tF.trs.flatMap Tn.cells) := Hr1.out
  have hk12 : Keeps (fun _ => False) w1 W2 := by rw [hW2]; exact (Keeps.alloc _ _).trans_alloc
  have hk2 : Keeps (fun _ => False) w w1 := Hk1.out
  rw [← hW2]
  clear hW2
  have t0 := cell_of_cells (htb2) 0
  have t1 := cell_of_cells (htb2) 1
  have t2 := cell_of_cells (htb2) 2
  have t3 := cell_of_cells (htb2) 3
  have t4 := cell_of_cells (htb2) 4
  have t5 := cell_of_cells (htb2) 5
  have t6 := cell_of_cells (htb2) 6
  have tl := lt_of_block (htb2)
  obtain ⟨Htb2, Hbv2, Hev2, Htr2, Hk12, Hk2⟩ := hid6 htb2 hbv2 hev2 htr2 hk12 hk2; clear hk2 hk12 htr2 hev2 hbv2 htb2
  have hev7 : Reads W2 5 (.slice (some ⟨w1.heap.size + 1, 0, none⟩) 1 1) 1 ((bkT (1 + f0) h0 D).flatMap Ev.cells) := by
   unfold bkT
   rw [if_neg (by omega)]
   exact Reads.of_owns Hev2.out
  have Hev7 := Lib.hid hev7; clear hev7
  go_wp2_with fail
  refine (Hrun.out (some ⟨TB, 0, none⟩) (some ⟨w1.heap.size + 1, 0, none⟩) _ (Htr2.out.keeps (Hk12.out) (by simp)) (Hev7.out)).mono ?_
  clear t0 t1 t2 t3 t4 t5 t6 tl
  rintro e w2 (⟨hz, vb, vr, vo, Q, rfl, hres⟩ | ⟨hz, _⟩)
  rotate_left
  ·exact absurd rfl hz
  obtain ⟨xa, xc, xa', xc', rfl⟩ := map_two hres.lp
  obtain ⟨ab, cb, rfl, _⟩ := ownsRow_shape hres.bal
  have hs : w2.ownsRow 0 49 9 vo 2 _ := hres.out
  have hl : w2.ownsRow 0 56 3 (.slice xa 2 xc) 2 ([l1, ⟨1 + f0 - h0 + v, v, 2000000⟩].flatMap Ln.cells) := hres.ln ⟨_, xa, xc⟩ (List.mem_cons_self ..)
  obtain ⟨gs, cs, rfl, _⟩ := owns_some hs (by decide)
  obtain ⟨gl, cl, hle, _⟩ := owns_some hl (by decide)
  simp only [Value.slice.injEq, true_and] at hle
  obtain ⟨rfl, rfl⟩ := hle
  have hkr : Keeps (fun _ => False) w w2 := (Hk2.out.nt (Hk12.out)).nt hres.kp
  obtain ⟨Hs, Hl, Hres, Hkr⟩ := hid4 hs hl hres hkr; clear hkr hres hl hs
  go_wp2_with (go_at_call 11; (with_reducible refine (awake19_any _).mono ?_); rintro e w3 ⟨rfl, hk3⟩; have Hk3 := Lib.hid hk3; clear hk3; refine haltW ?_)
  refine Lib.hid ?_
  have hk23 : Keeps (fun _ => False) w2 w3 := (Keeps.alloc w2 _).nt Hk3.out
  have Hk23 := Lib.hid hk23; clear hk23
  go_wp2
  go_loopw [13, 14, 15] (fun x y z wx => ∃ (k : Nat) (va vd : Value), va = x ∧ vd = y ∧ z = .int .i64 (k : Nat) ∧ k ≤ 31 ∧ TwoR w3 wx (YA.take k) (YB.take k) va vd) (fun _ _ z _ => 31 - (intOf z).toNat)
  case atStart => exact ⟨0, _, _, rfl, rfl, rfl, by decide, TwoR.nil w3⟩
  case round =>
   obtain ⟨k, va, vd, rfl, rfl, rfl, hk, ht⟩ := hrel
   have hlA : (YA.take k).length = k := by rw [List.length_take, La.out]; omega
   have hlB : (YB.take k).length = k := by rw [List.length_take, Lb.out]; omega
   obtain ⟨aa, ca, rfl⟩ : ∃ a c, va = .slice a k c := by obtain ⟨a, c, h, _⟩ := ownsRow_shape ht.a; rw [hlA] at h; exact ⟨a, c, h⟩
   obtain ⟨ad, cd, rfl⟩ : ∃ a c, vd = .slice a k c := by obtain ⟨a, c, h, _⟩ := ownsRow_shape ht.b; rw [hlB] at h; exact ⟨a, c, h⟩
   by_cases hlt : k < 31
   ·have hltI : (k : Int) < 31 := by omega
    have hta := Ta.out k hlt
    have htb := Tb.out k hlt
    have hrA := ht.a
    rw [hlA] at hrA
    obtain ⟨wq, hwq⟩ : ∃ x, x = wr := ⟨_, rfl⟩
    subst hwq
    by_cases hkD : (k : Int) < D
    ·rw [if_pos hkD] at hta
     obtain ⟨Ht, Hta, Htb, HrA, HlA, HlB⟩ := hid6 ht hta htb hrA hlA hlB; clear hlB hlA hrA htb hta ht
     go_wp2_with (first
      | (at_builtin; refine wpList_append_row rfl (.tmp 82) (.tmp 84) 30 rfl 0 2 i0 _ 1 8 Try.underlying30 Hi.out Hi0.out Hi1.out Hi2.out rfl (by decide) (.slice aa k ca) k _ rfl (HrA.out.alloc _) _ 1 _ rfl (Reads.litAt _ _ _ 1 1 _ (by first | rfl | simp) rfl) (by simp [Value.oneCell']) (by unfold maxLen; omega) (by omega) (Nat.zero_le _) ?_; intro v4 w4 hown4 hk4 hf4; have ht4 := (Ht.out.keep (Keeps.alloc _ _)).app (x := 1 + f0) (by rw [HlA.out]) (by rw [List.flatMap_append]; exact hown4) hk4 hf4; rw [← Hta.out] at ht4; obtain ⟨a4, c4, rfl, _, _⟩ := ownsRow_shape hown4; have hrB := ht4.b; rw [HlB.out] at hrB; have HrB := Lib.hid hrB; have Ht4 := Lib.hid ht4; clear hown4 hk4 hf4 ht4 hrB)
      | (at_builtin; refine wpList_append_row rfl (.tmp 86) (.tmp 87) 30 rfl 0 2 i0 _ 1 8 Try.underlying30 Hi.out Hi0.out Hi1.out Hi2.out rfl (by decide) (.slice ad k cd) k _ rfl (HrB.out.alloc _) _ 1 _ rfl (Reads.litAt _ _ _ 1 1 _ (by first | rfl | simp) rfl) (by simp [Value.oneCell']) (by unfold maxLen; omega) (by omega) (Nat.zero_le _) ?_; intro v5 w5 hown5 hk5 hf5; have ht5 := ((Ht4.out.keep (Keeps.alloc _ _)).swap.app (x := 2000000) (by rw [HlB.out]) (by rw [List.flatMap_append]; exact hown5) hk5 hf5).swap; rw [← Htb.out] at ht5; obtain ⟨a5, c5, rfl, _, _⟩ := ownsRow_shape hown5; have Ht5 := Lib.hid ht5; clear hown5 hk5 hf5 ht5))
     go_roundw
     case rel => exact ⟨k + 1, _, _, rfl, rfl, by go_num, by omega, Ht5.out⟩
     case measure => simp [intOf]; omega
    ·rw [if_neg hkD] at hta
     obtain ⟨Ht, Hta, Htb, HrA, HlA, HlB⟩ := hid6 ht hta htb hrA hlA hlB; clear hlB hlA hrA htb hta ht
     go_wp2_with (first
      | (at_builtin; refine wpList_append_row rfl (.tmp 82) (.tmp 84) 30 rfl 0 2 i0 _ 1 8 Try.underlying30 Hi.out Hi0.out Hi1.out Hi2.out rfl (by decide) (.slice aa k ca) k _ rfl (HrA.out.alloc _) _ 1 _ rfl (Reads.litAt _ _ _ 1 1 _ (by first | rfl | simp) rfl) (by simp [Value.oneCell']) (by unfold maxLen; omega) (by omega) (Nat.zero_le _) ?_; intro v4 w4 hown4 hk4 hf4; have ht4 := (Ht.out.keep (Keeps.alloc _ _)).app (x := 1 + f0 - h0) (by rw [HlA.out]) (by rw [List.flatMap_append]; exact hown4) hk4 hf4; rw [← Hta.out] at ht4; obtain ⟨a4, c4, rfl, _, _⟩ := ownsRow_shape hown4; have hrB := ht4.b; rw [HlB.out] at hrB; have HrB := Lib.hid hrB; have Ht4 := Lib.hid ht4; clear hown4 hk4 hf4 ht4 hrB)
      | (at_builtin; refine wpList_append_row rfl (.tmp 86) (.tmp 87) 30 rfl 0 2 i0 _ 1 8 Try.underlying30 Hi.out Hi0.out Hi1.out Hi2.out rfl (by decide) (.slice ad k cd) k _ rfl (HrB.out.alloc _) _ 1 _ rfl (Reads.litAt _ _ _ 1 1 _ (by first | rfl | simp) rfl) (by simp [Value.oneCell']) (by unfold maxLen; omega) (by omega) (Nat.zero_le _) ?_; intro v5 w5 hown5 hk5 hf5; have ht5 := ((Ht4.out.keep (Keeps.alloc _ _)).swap.app (x := 2000000) (by rw [HlB.out]) (by rw [List.flatMap_append]; exact hown5) hk5 hf5).swap; rw [← Htb.out] at ht5; obtain ⟨a5, c5, rfl, _, _⟩ := ownsRow_shape hown5; have Ht5 := Lib.hid ht5; clear hown5 hk5 hf5 ht5))
     go_roundw
     case rel => exact ⟨k + 1, _, _, rfl, rfl, by go_num, by omega, Ht5.out⟩
     case measure => simp [intOf]; omega
   ·obtain rfl : k = 31 := by omega
    rw [List.take_of_length_le (by rw [La.out]; exact Nat.le_refl _), List.take_of_length_le (by rw [Lb.out]; exact Nat.le_refl _)] at ht
    have hra := Reads.of_owns ht.a
    have hrb := Reads.of_owns ht.b
    rw [La.out] at hra
    rw [Lb.out] at hrb
    have hOf := r13Of_any YA YB aa ad ca cd 31 wr hra La.out hrb Lb.out (by decide) Ba.out Bb.out
    rw [Hof.out] at hOf
    obtain ⟨Ht, Hra, Hrb, HOf, HlA, HlB⟩ := hid6 ht hra hrb hOf hlA hlB; clear hlB hlA hOf hrb hra ht
    go_wp2_with (go_at_call 22; (with_reducible refine HOf.out.mono ?_); rintro e w9 ⟨rfl, hk9⟩; have Hk9 := Lib.hid hk9; clear hk9; refine haltW ?_)
    refine Lib.hid ?_
    have hk29 : Keeps (fun _ => False) w2 w9 := (Hk23.out.nt Ht.out.kp).nt Hk9.out
    have hs3 := Hs.out.of_keeps hk29
    have hl3 := Hl.out.of_keeps hk29
    have m0 : (w9).cell? ⟨gs, 0 * 9 + 0, none⟩ = _ := owns_elem SV.cells_length hs3 (k := 0) rfl 0 (by decide)
    have m1 : (w9).cell? ⟨gs, 0 * 9 + 1, none⟩ = _ := owns_elem SV.cells_length hs3 (k := 0) rfl 1 (by decide)
    have m2 : (w9).cell? ⟨gs, 0 * 9 + 2, none⟩ = _ := owns_elem SV.cells_length hs3 (k := 0) rfl 2 (by decide)
    have m3 : (w9).cell? ⟨gs, 0 * 9 + 3, none⟩ = _ := owns_elem SV.cells_length hs3 (k := 0) rfl 3 (by decide)
    have m4 : (w9).cell? ⟨gs, 0 * 9 + 4, none⟩ = _ := owns_elem SV.cells_length hs3 (k := 0) rfl 4 (by decide)
    have m5 : (w9).cell? ⟨gs, 0 * 9 + 5, none⟩ = _ := owns_elem SV.cells_length hs3 (k := 0) rfl 5 (by decide)
    have m6 : (w9).cell? ⟨gs, 0 * 9 + 6, none⟩ = _ := owns_elem SV.cells_length hs3 (k := 0) rfl 6 (by decide)
    have m7 : (w9).cell? ⟨gs, 0 * 9 + 7, none⟩ = _ := owns_elem SV.cells_length hs3 (k := 0) rfl 7 (by decide)
    have m8 : (w9).cell? ⟨gs, 0 * 9 + 8, none⟩ = _ := owns_elem SV.cells_length hs3 (k := 0) rfl 8 (by decide)
    simp only [SV.cells, SV.v, Nat.reduceMul, Nat.reduceAdd, List.getElem?_cons_zero, List.getElem?_cons_succ, List.length_cons, List.length_nil] at m0 m1 m2 m3 m4 m5 m6 m7 m8
    have n1 : w9.cell? ⟨gl, 4, none⟩ = some (.int .i64 v) := owns_elem Ln.cells_length hl3 (k := 1) (x := ⟨1 + f0 - h0 + v, v, 2000000⟩) rfl 1 (by decide)
    have ml := cell_lt m0
    have nl := cell_lt n1
    have hkf := Hkr.out.nt hk29
    obtain ⟨Hk29, Hs3, Hl3, Hkf⟩ := hid4 hk29 hs3 hl3 hkf; clear hkf hl3 hs3 hk29
    go_wp2
    go_ret
    exact ⟨rfl, Hkf.out.below (by simp) (Nat.le_refl _)⟩
end Go.Proofs.Ythcmpcekmkioaaa
namespace Go.Proofs.Ythcmpcekmkioaaa.replayBack
open Go.ChangeShapes Go.WideShapes Go.ChangeAt Go.RowKit Go.Deep
set_option maxRecDepth 100000 in
theorem lifted (os : Os) (started : os.Started) (H : Type) (enc : TypeId × Value → H) :
  ReturnsInHanded {} Try.checked os 7 .any (Rows.replayBackSpec.pre6 enc Try.prog Try.f7 Rows.replayBackRow.domain false) (Rows.replayBackSpec.post enc Try.prog Try.f7 false true false false) := by
 refine returnsInHanded_of_change (C := Try.checked) own started (by kernel_rfl) Try.func7
  (ChangeSpec.witness6 (enc := enc) (C := Try.checked) false ⟨#[], #[.int .i64 0, .int .i64 0, .int .i64 0], []⟩ 8 (by kernel_rfl) (by kernel_rfl) (by kernel_rfl) (by kernel_rfl)) ?_
 intro W base args ds gs before hval0 hW hcnd _
 have hval : ∀ (j : Nat) t v, Try.f7.params[j]? = some t → args[j]? = some v → Value.okWide Try.prog W .any base t v := hval0
 have hW' := hW
 obtain ⟨p, q, hA0, hV, rfl, hfz, hnd⟩ := hW
 have hA : DataW.TrodAll enc Try.prog W 0 (fun _ => true) true Try.f7.params.toList args.toList ds p := hA0
 rw [Try.params7] at hA hval
 obtain ⟨v0, vs0, d0, ds0, p0, q0, hargs, rfl, rfl, h0, r0⟩ := trodAll_cons hA
 obtain ⟨v1, vs1, d1, ds1, p1, q1, rfl, rfl, rfl, h1, r1⟩ := trodAll_cons r0
 obtain ⟨v2, vs2, d2, ds2, p2, q2, rfl, rfl, rfl, h2, r2⟩ := trodAll_cons r1
 obtain ⟨rfl, rfl, rfl⟩ := trodAll_nil r2
 obtain rfl : args = #[v0, v1, v2] := by cases args; simp_all
 obtain ⟨rfl, rfl⟩ := trodVars_none hV
 obtain ⟨a0, rfl, rfl, rfl, w0⟩ := open_int Try.underlying2 (hval 0 2 v0 rfl rfl) h0
 obtain ⟨a1, rfl, rfl, rfl, w1⟩ := open_int Try.underlying2 (hval 1 2 v1 rfl rfl) h1
 obtain ⟨a2, rfl, rfl, rfl, w2⟩ := open_int Try.underlying3 (hval 2 3 v2 rfl rfl) h2
 clear hA0 hval0
 refine (replayBack_walk W a0 w0 a1 w1 a2 w2).mono fun e W' ⟨he, bel⟩ => ?_
 subst he
 exact ⟨_, rfl, _, _, _, [], _, [], hW', trodAll_mk1 (shut_bool Try.underlying4 _), (trodAll_cons_mk (shut_int Try.underlying2 w0) (trodAll_cons_mk (shut_int Try.underlying2 w1) (trodAll_cons_mk (shut_int Try.underlying3 w2) trodAll_mk0))), rfl, bel.frame _, fun h => by cases h⟩
theorem over : Rows.replayBackRow.holds Try.pinned (OpenSpec.ofChange Rows.replayBackSpec) :=
 OpenClaim.holds_of_wide 7 Try.f7 rfl rfl rfl rfl rfl rfl rfl ⟨rfl, rfl, rfl, rfl, rfl⟩ rfl rfl rfl rfl rfl (by kernel_rfl) Try.func7 (by kernel_rfl)
  (of_decide_eq_true (by kernel_rfl)) (by unfold Func.isWrapper; first | (rw [if_pos (by decide +kernel)]; kernel_rfl) | (rw [if_neg (by decide +kernel)]; exact ⟨rfl, rfl⟩))
  (fun os started H enc _ => lifted os started H enc)
theorem proved : Rows.ReplayBackSaid := over
#print axioms proved
end Go.Proofs.Ythcmpcekmkioaaa.replayBack
