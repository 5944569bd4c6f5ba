/- Texts, plainly: numbers in decimal, dates, lines, a statement's text. -/
import Derived.Lib.ItoaLen
import Derived.Lib.ItoaNum
import Derived.Test.YthokcmbgamanbaaDoorPagePlain
import Derived.Test.YthokcmbgamanbaaDoorCycPl
namespace Go.Proofs.YthokcmbgamanbaaDoor
open Go.RowKit
/-- Bytes, as a string has them. -/
def tx (l : List UInt8) : ByteArray := ⟨l.toArray⟩
theorem tx_app (a b : List UInt8) : tx a ++ tx b = tx (a ++ b) := by
  apply ByteArray.ext
  rw [ByteArray.data_append]
  unfold tx
  simp
theorem tx_size (a : List UInt8) : (tx a).size = a.length := by unfold tx; simp [ByteArray.size]
theorem tx_inj {a b : List UInt8} : tx a = tx b ↔ a = b := by
  constructor
  · intro h
    unfold tx at h
    simpa using h
  · rintro rfl; rfl
/-- Two digits. -/
def twoT (n : Int) : List UInt8 := [UInt8.ofNat (48 + n.toNat / 10), UInt8.ofNat (48 + n.toNat % 10)]
def dateT (n : Int) : List UInt8 := Lib.itoa (dY n) ++ 45 :: (twoT (dM n) ++ 45 :: twoT (dD n))
/-- Numbers, each with a blank ahead. -/
def numsT (L : List Int) : List UInt8 := L.flatMap fun v => 32 :: Lib.itoa v
def lineT (wd : List UInt8) (L : List Int) : List UInt8 := wd ++ numsT L ++ [10]
def wTranche : List UInt8 := [116, 114, 97, 110, 99, 104, 101]
def wTotal : List UInt8 := [116, 111, 116, 97, 108]
def wDue : List UInt8 := [100, 117, 101, 32]
def wGrace : List UInt8 := [103, 114, 97, 99, 101, 10]
def wCycle : List UInt8 := [99, 121, 99, 108, 101, 32]
def rowT (n : Nat) (x : Ln) : List UInt8 := lineT wTranche [(n : Int) + 1, x.balance, x.interest, x.rate]
/-- The lines of the first so many tranches. -/
def rowsT (L : List Ln) : Nat → List UInt8
  | 0 => []
  | n + 1 => rowsT L n ++ (match L[n]? with | some x => rowT n x | none => [])
def headT (s : Stm) : List UInt8 := wCycle ++ (Lib.itoa s.cycle ++ (32 :: (dateT s.fr ++ (46 :: 46 :: (dateT s.te ++ [10])))))
def stmT (s : Stm) : List UInt8 :=
  if s.rightB = true then headT s ++ lineT (wDue ++ dateT s.due) [s.min] ++ rowsT s.lines s.lines.length ++ lineT wTotal [s.total, s.credit] ++ (if s.grace = true then wGrace else []) else []
theorem numsT_snoc (L : List Int) (v : Int) : numsT (L ++ [v]) = numsT L ++ 32 :: Lib.itoa v := by unfold numsT; rw [List.flatMap_append]; simp
theorem rowsT_succ {L : List Ln} {n : Nat} {x : Ln} (h : L[n]? = some x) : rowsT L (n + 1) = rowsT L n ++ rowT n x := by
  rw [rowsT, h]
/-- How long they are. -/
theorem itoa_le {v : Int} (h : 0 ≤ v ∧ v ≤ 2000000000000000) : (Lib.itoa v).length ≤ 21 := Lib.itoa_length_le v (by omega) (by omega)
theorem dateT_le {n : Int} (h : 1600 ≤ dY n ∧ dY n ≤ 9999) : (dateT n).length ≤ 30 := by
  have := itoa_le (v := dY n) (by omega)
  unfold dateT twoT
  simp only [List.length_append, List.length_cons, List.length_nil]
  omega
theorem two_lt {n : Int} (h0 : 0 ≤ n) (h1 : n < 10) : (48 : UInt8) :: Lib.itoa n = twoT n := by
  obtain ⟨k, rfl⟩ := Int.eq_ofNat_of_zero_le h0
  have hk : k < 10 := by omega
  unfold Lib.itoa twoT
  rw [if_neg (by omega), Int.toNat_natCast, Lib.decDigits_one hk, Nat.div_eq_of_lt hk, Nat.mod_eq_of_lt hk]
  rfl
theorem two_ge {n : Int} (h0 : 10 ≤ n) (h1 : n < 100) : Lib.itoa n = twoT n := by
  obtain ⟨k, rfl⟩ := Int.eq_ofNat_of_zero_le (show 0 ≤ n by omega)
  unfold Lib.itoa twoT
  rw [if_neg (by omega), Int.toNat_natCast, Lib.decDigits_two (by omega) (by omega)]
theorem itoa_nat (k : Nat) : Lib.itoa (k : Int) = Lib.decDigits k := by unfold Lib.itoa; rw [if_neg (by omega), Int.toNat_natCast]
/-- No line's end is in a number. -/
theorem digits_no10 (u : Nat) : (Lib.decDigits u).count 10 = 0 := by
  induction u using Nat.strongRecOn with
  | _ u ih =>
    have hd : ∀ d : Fin 10, (UInt8.ofNat (48 + d.val) == (10 : UInt8)) = false := by decide
    by_cases h : u < 10
    · rw [Lib.decDigits, dif_pos h]
      have := hd ⟨u, h⟩
      simp only at this
      rw [List.count_cons, this]; rfl
    · rw [Lib.decDigits, dif_neg h, List.count_append, ih _ (by omega)]
      have := hd ⟨u % 10, by omega⟩
      simp only at this
      rw [List.count_cons, this]; rfl
theorem itoa_no10 (v : Int) : (Lib.itoa v).count 10 = 0 := by
  unfold Lib.itoa
  split
  · rw [List.count_cons, digits_no10]; rfl
  · exact digits_no10 _
theorem numsT_no10 (L : List Int) : (numsT L).count 10 = 0 := by
  induction L with
  | nil => rfl
  | cons a l ih =>
    have : numsT (a :: l) = 32 :: (Lib.itoa a ++ numsT l) := by unfold numsT; rw [List.flatMap_cons]; rfl
    rw [this, List.count_cons, List.count_append, itoa_no10, ih]; rfl
theorem lineT_10 (wd : List UInt8) (L : List Int) (h : wd.count 10 = 0) : (lineT wd L).count 10 = 1 := by
  unfold lineT
  rw [List.count_append, List.count_append, h, numsT_no10]; rfl
theorem twoT_no10 {n : Int} (h0 : 0 ≤ n) (h1 : n < 100) : (twoT n).count 10 = 0 := by
  obtain ⟨k, rfl⟩ := Int.eq_ofNat_of_zero_le h0
  by_cases h : (k : Int) < 10
  · have h2 := two_lt h0 h
    rw [← h2, List.count_cons, itoa_no10]; rfl
  · rw [← two_ge (by omega) h1, itoa_no10]
theorem dateT_no10 {n : Int} (h : 1 ≤ dM n ∧ dM n ≤ 12) (h2 : 1 ≤ dD n ∧ dD n ≤ 31) : (dateT n).count 10 = 0 := by
  unfold dateT
  rw [List.count_append, List.count_cons, List.count_append, List.count_cons, itoa_no10, twoT_no10 (by omega) (by omega), twoT_no10 (by omega) (by omega)]; rfl
theorem rowsT_10 (L : List Ln) : ∀ n, n ≤ L.length → (rowsT L n).count 10 = n
  | 0, _ => rfl
  | n + 1, h => by
    obtain ⟨x, hx⟩ : ∃ x, L[n]? = some x := ⟨L[n], List.getElem?_eq_getElem (by omega)⟩
    rw [rowsT_succ hx, List.count_append, rowsT_10 L n (by omega)]
    unfold rowT
    rw [lineT_10 _ _ (by decide)]
theorem date_bd {n : Int} (h0 : -135140 ≤ n) (h1 : n ≤ 2932896) : (1600 ≤ dY n ∧ dY n ≤ 9999) ∧ (1 ≤ dM n ∧ dM n ≤ 12) ∧ (1 ≤ dD n ∧ dD n ≤ 31) := by
  have h := date_is h0 h1
  have hm := (cumT_succ (y := dY n) h.m0 h.m1).2
  have hc : 0 ≤ cumT (dY n) (dM n) := by
    have h2 := cumT_mono (y := dY n) (a := 1) (by omega) (dM n - 1).toNat (by have := h.m1; have := h.m0; omega)
    rw [cumT_one, show (1 : Int) + ((dM n - 1).toNat : Nat) = dM n by have := h.m0; omega] at h2
    exact h2
  refine ⟨⟨h.y0, ?_⟩, ⟨h.m0, h.m1⟩, ⟨h.d0, by have := h.d1; omega⟩⟩
  rcases Int.lt_or_le (dY n) 10000 with hy | hy
  · omega
  · have h2 := nY_mono (x := 10000) (y := dY n) (by omega) hy
    have h3 : nY 10000 = 2932897 := by decide
    have h4 := h.eq
    have h5 := h.d0
    omega
theorem itoa_pos (v : Int) : 1 ≤ (Lib.itoa v).length := by
  unfold Lib.itoa
  split
  · simp
  · rw [Lib.decDigits_length]; exact Lib.nDigits_pos _
theorem dateT_ge (n : Int) : 7 ≤ (dateT n).length := by
  have := itoa_pos (dY n)
  unfold dateT twoT
  simp only [List.length_append, List.length_cons, List.length_nil]
  omega
theorem rowT_bd {n : Nat} {x : Ln} (hn : n ≤ 8) (h : x.okB = true) : 16 ≤ (rowT n x).length ∧ (rowT n x).length ≤ 100 := by
  unfold Ln.okB at h
  simp only [Bool.and_eq_true, mayB_iff, List.mem_cons, List.not_mem_nil, or_false, forall_eq_or_imp, forall_eq] at h
  have h1 := itoa_pos ((n : Int) + 1)
  have h2 := itoa_pos x.balance
  have h3 := itoa_pos x.interest
  have h4 := itoa_pos x.rate
  have k1 := itoa_le (v := (n : Int) + 1) (by omega)
  have k2 := itoa_le (v := x.balance) (by omega)
  have k3 := itoa_le (v := x.interest) (by omega)
  have k4 := itoa_le (v := x.rate) (by omega)
  unfold rowT lineT numsT wTranche
  simp only [List.length_append, List.length_cons, List.length_nil, List.flatMap_cons, List.flatMap_nil]
  omega
theorem rowsT_bd {L : List Ln} (hL : L.length ≤ 8) (h : ∀ x ∈ L, Ln.okB x = true) : ∀ n, n ≤ L.length → 16 * n ≤ (rowsT L n).length ∧ (rowsT L n).length ≤ 100 * n
  | 0, _ => by simp [rowsT]
  | n + 1, hn => by
    obtain ⟨x, hx⟩ : ∃ x, L[n]? = some x := ⟨L[n], List.getElem?_eq_getElem (by omega)⟩
    have h1 := rowsT_bd hL h n (by omega)
    have h2 := rowT_bd (n := n) (by omega) (h x (List.mem_of_getElem? hx))
    rw [rowsT_succ hx, List.length_append]
    omega
theorem headT_10 {s : Stm} (hr : s.Right) : (headT s).count 10 = 1 := by
  have h1 := date_bd hr.fr.1 hr.fr.2
  have h2 := date_bd hr.te.1 hr.te.2
  unfold headT
  rw [List.count_append, List.count_append, List.count_cons, List.count_append, List.count_cons, List.count_cons, List.count_append, itoa_no10, dateT_no10 h1.2.1 h1.2.2, dateT_no10 h2.2.1 h2.2.2]
  rfl
theorem dueT_10 {s : Stm} (hr : s.Right) : (lineT (wDue ++ dateT s.due) [s.min]).count 10 = 1 := by
  have h1 := date_bd hr.due.1 hr.due.2
  exact lineT_10 _ _ (by rw [List.count_append, dateT_no10 h1.2.1 h1.2.2]; rfl)
theorem stmT_10 {s : Stm} (h : s.rightB = true) : (stmT s).count 10 = s.lines.length + 3 + (if s.grace = true then 1 else 0) := by
  have hr := Stm.right_of h
  unfold stmT
  rw [if_pos h, List.count_append, List.count_append, List.count_append, List.count_append, headT_10 hr, dueT_10 hr, rowsT_10 _ _ (Nat.le_refl _), lineT_10 _ _ (by decide)]
  rcases s.grace <;> simp [wGrace] <;> omega
theorem headT_bd {s : Stm} (hr : s.Right) : 25 ≤ (headT s).length ∧ (headT s).length ≤ 95 := by
  have h1 := date_bd hr.fr.1 hr.fr.2
  have h2 := date_bd hr.te.1 hr.te.2
  have a1 := dateT_ge s.fr
  have a2 := dateT_ge s.te
  have b1 := dateT_le h1.1
  have b2 := dateT_le h2.1
  have c1 := itoa_pos s.cycle
  have c2 := itoa_le (v := s.cycle) (by have := hr.cycle; omega)
  unfold headT wCycle
  simp only [List.length_append, List.length_cons, List.length_nil]
  omega
theorem dueT_bd {s : Stm} (hr : s.Right) : 14 ≤ (lineT (wDue ++ dateT s.due) [s.min]).length ∧ (lineT (wDue ++ dateT s.due) [s.min]).length ≤ 57 := by
  have h1 := date_bd hr.due.1 hr.due.2
  have a1 := dateT_ge s.due
  have b1 := dateT_le h1.1
  have c1 := itoa_pos s.min
  have c2 := itoa_le (v := s.min) (by have := hr.min; omega)
  unfold lineT numsT wDue
  simp only [List.length_append, List.length_cons, List.length_nil, List.flatMap_cons, List.flatMap_nil]
  omega
theorem totT_bd {s : Stm} (hr : s.Right) : (lineT wTotal [s.total, s.credit]).length ≤ 50 := by
  have c1 := itoa_le (v := s.total) (by have := hr.total; omega)
  have c2 := itoa_le (v := s.credit) (by have := hr.credit; omega)
  unfold lineT numsT wTotal
  simp only [List.length_append, List.length_cons, List.length_nil, List.flatMap_cons, List.flatMap_nil]
  omega
theorem stmT_bd {s : Stm} (h : s.rightB = true) : 40 < (stmT s).length := by
  have hr := Stm.right_of h
  have h1 := headT_bd hr
  have h2 := dueT_bd hr
  have h3 := rowsT_bd hr.len.2 (fun x hx => (Ln.ok_iff x).2 (hr.lines x hx)) s.lines.length (Nat.le_refl _)
  have h4 := hr.len
  unfold stmT
  rw [if_pos h]
  simp only [List.length_append]
  omega
theorem stmT_one {s : Stm} (h : s.rightB = true) (hc : s.cycle = 1) : (stmT s).take 8 = [99, 121, 99, 108, 101, 32, 49, 32] := by
  unfold stmT
  rw [if_pos h]
  unfold headT
  rw [hc, show Lib.itoa 1 = [49] from itoa_nat 1 ▸ Lib.decDigits_one (by decide)]
  unfold wCycle
  rfl
end Go.Proofs.YthokcmbgamanbaaDoor
