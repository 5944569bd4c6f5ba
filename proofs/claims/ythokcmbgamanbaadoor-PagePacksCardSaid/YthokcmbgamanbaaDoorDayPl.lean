/- Days of the calendar, in plain numbers. -/
import Derived.Test.YthokcmbgamanbaaDoorScope
namespace Go.Proofs.YthokcmbgamanbaaDoor
open Go.RowKit
def leapB (y : Int) : Bool := decide (y % 4 = 0) && (decide (¬ y % 100 = 0) || decide (y % 400 = 0))
/-- How many days a month has. -/
def mlen (y m : Int) : Int := if m = 2 then (if leapB y = true then 29 else 28) else if m = 4 ∨ m = 6 ∨ m = 9 ∨ m = 11 then 30 else if 1 ≤ m ∧ m ≤ 12 then 31 else 0
def ylen (y : Int) : Int := if leapB y = true then 366 else 365
/-- The number of a year's first day. -/
def nY (y : Int) : Int := -135140 + 365 * (y - 1600) + (y - 1600 + 3) / 4 - (y - 1600 + 99) / 100 + (y - 1600 + 399) / 400
theorem leapB_iff (y : Int) : leapB y = true ↔ (y % 4 = 0 ∧ (¬ y % 100 = 0 ∨ y % 400 = 0)) := by simp [leapB]
theorem nY_succ {y : Int} (_ : 1600 ≤ y) : nY (y + 1) = nY y + ylen y := by
  unfold nY ylen
  by_cases h : leapB y = true
  · rw [if_pos h]
    have := (leapB_iff y).1 h
    omega
  · rw [if_neg h]
    have : ¬ (y % 4 = 0 ∧ (¬ y % 100 = 0 ∨ y % 400 = 0)) := fun hh => h ((leapB_iff y).2 hh)
    omega
theorem ylen_pos (y : Int) : 365 ≤ ylen y ∧ ylen y ≤ 366 := by unfold ylen; split <;> omega
theorem nY_add {y : Int} (h : 1600 ≤ y) : ∀ k : Nat, nY y ≤ nY (y + k)
  | 0 => by simp
  | k + 1 => by
    have h1 := nY_add h k
    have h2 := nY_succ (y := y + k) (by omega)
    have h3 := ylen_pos (y + k)
    rw [show y + ((k + 1 : Nat) : Int) = y + k + 1 by omega]
    omega
theorem nY_mono {x y : Int} (h : 1600 ≤ x) (hxy : x ≤ y) : nY x ≤ nY y := by
  have := nY_add h (y - x).toNat
  rwa [show x + ((y - x).toNat : Int) = y by omega] at this
theorem nY_lt {x y : Int} (h : 1600 ≤ x) (hy : 1600 ≤ y) (hl : nY x < nY (y + 1)) : x ≤ y := by
  by_cases h' : y < x
  · have := nY_mono (x := y + 1) (y := x) (by omega) (by omega); omega
  · omega
def yrW (n : Int) : Nat → Int → Int
  | 0, y => y
  | f + 1, y => if nY (y + 1) ≤ n then yrW n f (y + 1) else y
/-- The year of a day. -/
def yearF (n : Int) : Int := yrW n 8400 1600
theorem yrW_eq {n y : Int} (h1 : nY y ≤ n) (h2 : n < nY (y + 1)) : ∀ (f : Nat) (y0 : Int), 1600 ≤ y0 → y0 ≤ y → y - y0 ≤ f → yrW n f y0 = y
  | 0, y0, _, h4, h5 => by unfold yrW; omega
  | f + 1, y0, h3, h4, h5 => by
    unfold yrW
    by_cases he : y0 = y
    · subst he; rw [if_neg (by omega)]
    · have := nY_mono (x := y0 + 1) (y := y) (by omega) (by omega)
      rw [if_pos (by omega)]
      exact yrW_eq h1 h2 f (y0 + 1) (by omega) (by omega) (by omega)
theorem yearF_eq {n y : Int} (h0 : 1600 ≤ y) (h1 : nY y ≤ n) (h2 : n < nY (y + 1)) (h3 : n ≤ 2932896) : yearF n = y ∧ y ≤ 9999 := by
  have h4 : y ≤ 9999 := nY_lt h0 (by omega) (by have : nY (9999 + 1) = 2932897 := by decide
                                                omega)
  exact ⟨yrW_eq h1 h2 8400 1600 (by omega) h0 (by omega), h4⟩
def moW (y : Int) : Nat → Int → Int → Int × Int
  | 0, m, r => (m, r)
  | f + 1, m, r => if mlen y m ≤ r then moW y f (m + 1) (r - mlen y m) else (m, r)
/-- The days of a year ahead of a month. -/
def cumT (y m : Int) : Int := if m ≤ 2 then 31 * (m - 1) else (if leapB y = true then 1 else 0) + (if m = 3 then 59 else if m = 4 then 90 else if m = 5 then 120 else if m = 6 then 151 else if m = 7 then 181 else if m = 8 then 212 else if m = 9 then 243 else if m = 10 then 273 else if m = 11 then 304 else if m = 12 then 334 else 365)
theorem cumT_succ {y m : Int} (h1 : 1 ≤ m) (h2 : m ≤ 12) : cumT y (m + 1) = cumT y m + mlen y m ∧ 28 ≤ mlen y m ∧ mlen y m ≤ 31 := by
  obtain rfl | rfl | rfl | rfl | rfl | rfl | rfl | rfl | rfl | rfl | rfl | rfl : m = 1 ∨ m = 2 ∨ m = 3 ∨ m = 4 ∨ m = 5 ∨ m = 6 ∨ m = 7 ∨ m = 8 ∨ m = 9 ∨ m = 10 ∨ m = 11 ∨ m = 12 := by omega
  all_goals (unfold cumT mlen; rcases leapB y <;> decide)
theorem cumT_end (y : Int) : cumT y 13 = ylen y := by unfold cumT ylen; rcases leapB y <;> rfl
theorem cumT_one (y : Int) : cumT y 1 = 0 := rfl
/-- What a walk through the months keeps. -/
structure MoAt (y r : Int) (j : Nat) (q : Int) : Prop where
  lo : 1 ≤ j
  hi : j ≤ 12
  sum : q + cumT y j = r
  q0 : 0 ≤ q
  eq : moW y 12 1 r = moW y (13 - j) j q
theorem MoAt.start {y r : Int} (h0 : 0 ≤ r) : MoAt y r 1 r := ⟨by omega, by omega, by simp [cumT], h0, rfl⟩
theorem MoAt.next {y r : Int} {j : Nat} {q : Int} (h : MoAt y r j q) (hr : r < ylen y) (hq : mlen y j ≤ q) : MoAt y r (j + 1) (q - mlen y j) := by
  obtain ⟨lo, hi, sum, q0, eq⟩ := h
  have hc := (cumT_succ (y := y) (m := j) (by omega) (by omega)).1
  have hj : j ≤ 11 := by
    rcases Nat.lt_or_ge 11 j with h | h
    · exfalso
      obtain rfl : j = 12 := by omega
      have := cumT_end y
      rw [show ((12 : Nat) : Int) + 1 = 13 by rfl, this] at hc
      omega
    · exact h
  refine ⟨by omega, by omega, by rw [show ((j + 1 : Nat) : Int) = (j : Int) + 1 by omega, hc]; omega, by omega, ?_⟩
  rw [eq, show 13 - j = (13 - (j + 1)) + 1 by omega]
  show (if mlen y j ≤ q then _ else _) = _
  rw [if_pos hq, show ((j + 1 : Nat) : Int) = (j : Int) + 1 by omega]
theorem MoAt.done {y r : Int} {j : Nat} {q : Int} (h : MoAt y r j q) (hq : ¬ mlen y j ≤ q) : moW y 12 1 r = ((j : Int), q) := by
  rw [h.eq, show 13 - j = (13 - (j + 1)) + 1 by have := h.hi; omega]
  show (if mlen y j ≤ q then _ else _) = _
  rw [if_neg hq]
/-- The date of a day: its year, month and day. -/
def dY (n : Int) : Int := yearF n
def dM (n : Int) : Int := (moW (yearF n) 12 1 (n - nY (yearF n))).1
def dD (n : Int) : Int := (moW (yearF n) 12 1 (n - nY (yearF n))).2 + 1
def dayIn (n : Int) : Bool := decide (-135140 ≤ n ∧ n ≤ 2932896)
end Go.Proofs.YthokcmbgamanbaaDoor
