/- Cycles, in plain numbers: the last day of one that begins with a day. -/
import Derived.Test.YthokcmbgamanbaaDoorDayPl
namespace Go.Proofs.YthokcmbgamanbaaDoor
open Go.RowKit
/-- A date, and its number. -/
structure DateIs (y m d n : Int) : Prop where
  y0 : 1600 ≤ y
  m0 : 1 ≤ m
  m1 : m ≤ 12
  d0 : 1 ≤ d
  d1 : d ≤ mlen y m
  eq : n = nY y + cumT y m + d - 1
theorem cumT_mono {y : Int} {a : Int} (h0 : 1 ≤ a) : ∀ k : Nat, a + k ≤ 13 → cumT y a ≤ cumT y (a + k)
  | 0, _ => by simp
  | k + 1, h => by
    have h1 := cumT_mono (y := y) h0 k (by omega)
    have h2 := cumT_succ (y := y) (m := a + k) (by omega) (by omega)
    rw [show a + ((k + 1 : Nat) : Int) = a + k + 1 by omega]
    omega
theorem cumT_le {y a b : Int} (h0 : 1 ≤ a) (h1 : a ≤ b) (h2 : b ≤ 13) : cumT y a ≤ cumT y b := by
  have := cumT_mono (y := y) h0 (b - a).toNat (by omega)
  rwa [show a + ((b - a).toNat : Int) = b by omega] at this
theorem DateIs.year {y m d n : Int} (h : DateIs y m d n) : nY y ≤ n ∧ n < nY (y + 1) := by
  have h1 := cumT_succ (y := y) (m := m) h.m0 h.m1
  have h2 := cumT_le (y := y) (a := m + 1) (b := 13) (by have := h.m0; omega) (by have := h.m1; omega) (by omega)
  have h3 := cumT_le (y := y) (a := 1) (b := m) (by omega) h.m0 (by have := h.m1; omega)
  rw [cumT_end] at h2
  rw [cumT_one] at h3
  have h4 := nY_succ h.y0
  have := h.d0; have := h.d1; have := h.eq
  omega
theorem MoAt.walk {y r m : Int} (hr : r < ylen y) (h0 : 1 ≤ m) (h1 : m ≤ 12) (hq : cumT y m ≤ r) : ∀ k : Nat, (k : Int) < m → MoAt y r (k + 1) (r - cumT y ((k : Int) + 1))
  | 0, _ => by
    have : cumT y 1 ≤ cumT y m := cumT_le (by omega) h0 (by omega)
    rw [cumT_one] at this
    have := MoAt.start (y := y) (r := r) (by omega)
    simpa [cumT_one] using this
  | k + 1, hk => by
    have ih := MoAt.walk hr h0 h1 hq k (by omega)
    have hs := cumT_succ (y := y) (m := (k : Int) + 1) (by omega) (by omega)
    have hle := cumT_le (y := y) (a := (k : Int) + 1 + 1) (b := m) (by omega) (by omega) (by omega)
    have hkk : ((k + 1 : Nat) : Int) = (k : Int) + 1 := by omega
    have := ih.next hr (by rw [hkk]; omega)
    rw [hkk] at this ⊢
    rwa [show r - cumT y ((k : Int) + 1) - mlen y ((k : Int) + 1) = r - cumT y ((k : Int) + 1 + 1) by omega] at this
/-- The date is the one that is found. -/
theorem DateIs.found {y m d n : Int} (h : DateIs y m d n) (hn : n ≤ 2932896) : dY n = y ∧ dM n = m ∧ dD n = d := by
  obtain ⟨h1, h2⟩ := h.year
  obtain ⟨hy, _⟩ := yearF_eq h.y0 h1 h2 hn
  have hs := nY_succ h.y0
  have hd0 := h.d0; have hd1 := h.d1; have heq := h.eq; have hm0 := h.m0; have hm1 := h.m1
  have hw := MoAt.walk (y := y) (r := n - nY y) (m := m) (by omega) hm0 hm1 (by omega) (m - 1).toNat (by omega)
  rw [show (((m - 1).toNat : Nat) : Int) + 1 = m by omega, show (m - 1).toNat + 1 = m.toNat by omega] at hw
  have hc : ((m.toNat : Nat) : Int) = m := by omega
  have hdone := hw.done (by rw [hc]; omega)
  rw [hc] at hdone
  refine ⟨hy, ?_, ?_⟩
  · unfold dM; rw [hy, hdone]
  · unfold dD; rw [hy, hdone]; show n - nY y - cumT y m + 1 = d; omega
theorem date_next {y m d n : Int} (h : DateIs y m d n) : (d < mlen y m ∧ DateIs y m (d + 1) (n + 1)) ∨ (d = mlen y m ∧ m < 12 ∧ DateIs y (m + 1) 1 (n + 1)) ∨ (d = mlen y m ∧ m = 12 ∧ DateIs (y + 1) 1 1 (n + 1)) := by
  obtain ⟨y0, m0, m1, d0, d1, eq⟩ := h
  have hc := cumT_succ (y := y) (m := m) m0 m1
  by_cases hd : d < mlen y m
  · exact .inl ⟨hd, y0, m0, m1, by omega, by omega, by omega⟩
  · by_cases hm : m < 12
    · have hc2 := cumT_succ (y := y) (m := m + 1) (by omega) (by omega)
      exact .inr (.inl ⟨by omega, hm, y0, by omega, by omega, by omega, by omega, by omega⟩)
    · obtain rfl : m = 12 := by omega
      have hc2 := cumT_succ (y := y + 1) (m := 1) (by omega) (by omega)
      have he := cumT_end y
      have hy := nY_succ y0
      rw [show (12 : Int) + 1 = 13 by rfl, he] at hc
      exact .inr (.inr ⟨by omega, rfl, by omega, by omega, by omega, by omega, by omega, by rw [cumT_one]; omega⟩)
theorem date_ex : ∀ k : Nat, ∃ y m d, DateIs y m d (-135140 + k)
  | 0 => ⟨1600, 1, 1, by decide, by decide, by decide, by decide, by decide, by decide⟩
  | k + 1 => by
    obtain ⟨y, m, d, h⟩ := date_ex k
    rw [show (-135140 : Int) + ((k + 1 : Nat) : Int) = -135140 + k + 1 by omega]
    rcases date_next h with ⟨_, h⟩ | ⟨_, _, h⟩ | ⟨_, _, h⟩
    · exact ⟨_, _, _, h⟩
    · exact ⟨_, _, _, h⟩
    · exact ⟨_, _, _, h⟩
/-- The date of a day that there is. -/
theorem date_is {n : Int} (h0 : -135140 ≤ n) (h1 : n ≤ 2932896) : DateIs (dY n) (dM n) (dD n) n := by
  obtain ⟨y, m, d, h⟩ := date_ex (n + 135140).toNat
  rw [show (-135140 : Int) + ((n + 135140).toNat : Int) = n by omega] at h
  obtain ⟨e1, e2, e3⟩ := h.found h1
  rw [e1, e2, e3]; exact h
/-- Days of the same month. -/
theorem DateIs.same {y m d n : Int} (h : DateIs y m d n) (k : Int) (h0 : 1 ≤ d + k) (h1 : d + k ≤ mlen y m) : DateIs y m (d + k) (n + k) := ⟨h.y0, h.m0, h.m1, h0, h1, by have := h.eq; omega⟩
/-- Days of the next month. -/
theorem DateIs.over {y m d n : Int} (h : DateIs y m d n) (k : Int) (h0 : 1 ≤ k) (h1 : k ≤ 28) : ∃ y' m', DateIs y' m' k (n - d + mlen y m + k) := by
  have hl := h.same (mlen y m - d) (by have := h.d0; have := h.d1; omega) (by omega)
  rw [show d + (mlen y m - d) = mlen y m by omega] at hl
  rcases date_next hl with ⟨hh, _⟩ | ⟨_, hm, hn⟩ | ⟨_, hm, hn⟩
  · omega
  · have := cumT_succ (y := y) (m := m + 1) (by have := h.m0; omega) (by omega)
    have := hn.same (k - 1) (by omega) (by omega)
    exact ⟨_, _, by rwa [show 1 + (k - 1) = k by omega, show n + (mlen y m - d) + 1 + (k - 1) = n - d + mlen y m + k by omega] at this⟩
  · have := cumT_succ (y := y + 1) (m := 1) (by omega) (by omega)
    have := hn.same (k - 1) (by omega) (by omega)
    exact ⟨_, _, by rwa [show 1 + (k - 1) = k by omega, show n + (mlen y m - d) + 1 + (k - 1) = n - d + mlen y m + k by omega] at this⟩
/-- The last day of a cycle that begins with a day. -/
def lastF (fr cd : Int) : Int := if fr - dD fr + cd - 1 < fr then fr - dD fr + cd - 1 + mlen (dY fr) (dM fr) else fr - dD fr + cd - 1
def lastE (fr cd : Int) : Int := if cd < 1 ∨ 28 < cd then 1 else if ¬ (-135140 ≤ fr ∧ fr ≤ 2932896) then 10 else if 2932896 < lastF fr cd then 10 else 0
theorem lastF_ge {fr cd : Int} (h0 : -135140 ≤ fr) (h1 : fr ≤ 2932896) (c0 : 1 ≤ cd) (c1 : cd ≤ 28) : fr ≤ lastF fr cd ∧ lastF fr cd ≤ fr + 31 := by
  have h := date_is h0 h1
  have hm := (cumT_succ (y := dY fr) (m := dM fr) h.m0 h.m1).2
  have := h.d0; have := h.d1
  unfold lastF
  split <;> omega
/-- What is a day ahead of it is not the cycle's day. -/
theorem lastF_no {fr cd n : Int} (h0 : -135140 ≤ fr) (h1 : fr ≤ 2932896) (c0 : 1 ≤ cd) (c1 : cd ≤ 28) (hn0 : fr ≤ n) (hn1 : n < lastF fr cd) (hn2 : n + 1 ≤ 2932896) : dD (n + 1) ≠ cd := by
  have h := date_is h0 h1
  have hm := (cumT_succ (y := dY fr) (m := dM fr) h.m0 h.m1).2
  have hd0 := h.d0; have hd1 := h.d1
  unfold lastF at hn1
  by_cases hs : dD fr + (n + 1 - fr) ≤ mlen (dY fr) (dM fr)
  · have h2 := h.same (n + 1 - fr) (by omega) hs
    rw [show fr + (n + 1 - fr) = n + 1 by omega] at h2
    rw [(h2.found hn2).2.2]
    split at hn1 <;> omega
  · split at hn1
    · obtain ⟨y', m', h2⟩ := h.over (n + 1 - fr - (mlen (dY fr) (dM fr) - dD fr)) (by omega) (by omega)
      rw [show fr - dD fr + mlen (dY fr) (dM fr) + (n + 1 - fr - (mlen (dY fr) (dM fr) - dD fr)) = n + 1 by omega] at h2
      rw [(h2.found hn2).2.2]
      omega
    · omega
theorem lastF_yes {fr cd : Int} (h0 : -135140 ≤ fr) (h1 : fr ≤ 2932896) (c0 : 1 ≤ cd) (c1 : cd ≤ 28) (hn2 : lastF fr cd + 1 ≤ 2932896) : dD (lastF fr cd + 1) = cd := by
  have h := date_is h0 h1
  have hm := (cumT_succ (y := dY fr) (m := dM fr) h.m0 h.m1).2
  have hd0 := h.d0; have hd1 := h.d1
  unfold lastF at hn2 ⊢
  split
  · rename_i hlt
    rw [if_pos hlt] at hn2
    obtain ⟨y', m', h2⟩ := h.over cd c0 c1
    rw [show fr - dD fr + cd - 1 + mlen (dY fr) (dM fr) + 1 = fr - dD fr + mlen (dY fr) (dM fr) + cd by omega]
    exact (h2.found (by omega)).2.2
  · rename_i hlt
    rw [if_neg hlt] at hn2
    have h2 := h.same (cd - dD fr) (by omega) (by omega)
    rw [show fr - dD fr + cd - 1 + 1 = fr + (cd - dD fr) by omega]
    rw [(h2.found (by omega)).2.2]; omega
/-- At the calendar's end. -/
theorem lastF_end {fr cd : Int} (h0 : -135140 ≤ fr) (h1 : fr ≤ 2932896) (c0 : 1 ≤ cd) (c1 : cd ≤ 28) (hl : 2932896 ≤ lastF fr cd) : lastF fr cd = 2932896 ↔ cd = 1 := by
  have h := date_is h0 h1
  have hm := (cumT_succ (y := dY fr) (m := dM fr) h.m0 h.m1).2
  have hd0 := h.d0; have hd1 := h.d1
  have hy : nY (9999 + 1) = 2932897 := by decide
  have hyear := h.year
  have hy9 : dY fr ≤ 9999 := nY_lt h.y0 (by omega) (by omega)
  unfold lastF at hl ⊢
  split
  · rename_i hlt
    rw [if_pos hlt] at hl
    have hend := h.same (mlen (dY fr) (dM fr) - dD fr) (by omega) (by omega)
    rw [show dD fr + (mlen (dY fr) (dM fr) - dD fr) = mlen (dY fr) (dM fr) by omega] at hend
    have hle : fr + (mlen (dY fr) (dM fr) - dD fr) ≤ 2932896 := by
      have := hend.year.2
      have := nY_mono (x := dY fr + 1) (y := 9999 + 1) (by have := h.y0; omega) (by omega)
      omega
    rcases date_next hend with ⟨hh, _⟩ | ⟨_, hm12, hn⟩ | ⟨_, hm12, hn⟩
    · omega
    · have := cumT_succ (y := dY fr) (m := dM fr + 1) (by have := h.m0; omega) (by omega)
      have h3 := hn.same 27 (by omega) (by omega)
      have := h3.year.2
      have := nY_mono (x := dY fr + 1) (y := 9999 + 1) (by have := h.y0; omega) (by omega)
      omega
    · by_cases h99 : dY fr = 9999
      · have he := hend.eq
        rw [h99, hm12] at he
        have c1 := cumT_succ (y := 9999) (m := 12) (by omega) (by omega)
        have c2 := cumT_end 9999
        have c3 := nY_succ (y := 9999) (by omega)
        rw [show (12 : Int) + 1 = 13 by rfl, c2] at c1
        rw [h99, hm12] at *
        omega
      · have h3 := hn.same 27 (by omega) (by have := cumT_succ (y := dY fr + 1) (m := 1) (by omega) (by omega); omega)
        have := h3.year.2
        have := nY_mono (x := dY fr + 1 + 1) (y := 9999 + 1) (by have := h.y0; omega) (by omega)
        omega
  · rename_i hlt
    rw [if_neg hlt] at hl
    have hend := h.same (mlen (dY fr) (dM fr) - dD fr) (by omega) (by omega)
    have := hend.year.2
    have := nY_mono (x := dY fr + 1) (y := 9999 + 1) (by have := h.y0; omega) (by omega)
    omega
end Go.Proofs.YthokcmbgamanbaaDoor
