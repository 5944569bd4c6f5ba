/- Statements as bytes, plainly. -/
import Derived.Test.YthokcmbgamanbaaDoorStm
import Derived.Laws.BitsAllLaws
namespace Go.Proofs.YthokcmbgamanbaaDoor
open Go.RowKit
/-- Bytes as a number, the highest first. -/
def poly (L : List Int) : Int := L.foldl (fun v c => v * 256 + c) 0
theorem poly_snoc (L : List Int) (c : Int) : poly (L ++ [c]) = poly L * 256 + c := by unfold poly; rw [List.foldl_append]; rfl
def numOf (L : List Int) : Int := IntKind.i64.wrap (poly L)
def numAt (B : List Int) (i : Nat) : Int := numOf ((B.drop (8 * i)).take 8)
def eight (v : Int) : List Int :=
  [v / 72057594037927936 % 256, v / 281474976710656 % 256, v / 1099511627776 % 256, v / 4294967296 % 256, v / 16777216 % 256, v / 65536 % 256, v / 256 % 256, v % 256]
theorem eight_length (v : Int) : (eight v).length = 8 := rfl
theorem eight_bytes (v : Int) : ∀ z ∈ eight v, 0 ≤ z ∧ z ≤ 255 := by
  intro z hz
  simp only [eight, List.mem_cons, List.not_mem_nil, or_false] at hz
  rcases hz with rfl | rfl | rfl | rfl | rfl | rfl | rfl | rfl <;> omega
theorem poly_eight (v : Int) : poly (eight v) = v % 18446744073709551616 := by
  have h1 : v / 72057594037927936 = v / 281474976710656 / 256 := by omega
  have h2 : v / 281474976710656 = v / 1099511627776 / 256 := by omega
  have h3 : v / 1099511627776 = v / 4294967296 / 256 := by omega
  have h4 : v / 4294967296 = v / 16777216 / 256 := by omega
  have h5 : v / 16777216 = v / 65536 / 256 := by omega
  have h6 : v / 65536 = v / 256 / 256 := by omega
  unfold poly eight
  simp only [List.foldl]
  omega
theorem numOf_eight {v : Int} (h : -9223372036854775808 ≤ v ∧ v ≤ 9223372036854775807) : numOf (eight v) = v := by
  unfold numOf; rw [poly_eight]; simp [IntKind.wrap, IntKind.signed, IntKind.bits]; omega
theorem list8 {L : List Int} (h : L.length = 8) : ∃ a b c d e f g i, L = [a, b, c, d, e, f, g, i] := by
  match L, h with
  | [a, b, c, d, e, f, g, i], _ => exact ⟨a, b, c, d, e, f, g, i, rfl⟩
theorem eight_numOf {L : List Int} (hl : L.length = 8) (hb : ∀ z ∈ L, 0 ≤ z ∧ z ≤ 255) : eight (numOf L) = L := by
  obtain ⟨a, b, c, d, e, f, g, i, rfl⟩ := list8 hl
  have ha := hb a (by simp); have hb' := hb b (by simp); have hc := hb c (by simp); have hd := hb d (by simp)
  have he := hb e (by simp); have hf := hb f (by simp); have hg := hb g (by simp); have hi := hb i (by simp)
  clear hb hl
  obtain ⟨m, hm⟩ : ∃ m, numOf [a, b, c, d, e, f, g, i] = m := ⟨_, rfl⟩
  rw [hm]
  have hm' : ∃ k : Int, m = (((((((a * 256 + b) * 256 + c) * 256 + d) * 256 + e) * 256 + f) * 256 + g) * 256 + i) + k * 18446744073709551616 := by
    rw [← hm]; simp only [numOf, poly, List.foldl, IntKind.wrap, IntKind.signed, IntKind.bits]
    simp only [Int.zero_mul, Int.zero_add]
    generalize (((((((a * 256 + b) * 256 + c) * 256 + d) * 256 + e) * 256 + f) * 256 + g) * 256 + i) = z
    simp
    exact ⟨((z + 9223372036854775808) % 18446744073709551616 - (z + 9223372036854775808)) / 18446744073709551616, by omega⟩
  obtain ⟨k, hk⟩ := hm'
  clear hm
  have e7 : m % 256 = i := by omega
  have q7 : m / 256 = ((((((a * 256 + b) * 256 + c) * 256 + d) * 256 + e) * 256 + f) * 256 + g) + k * 72057594037927936 := by omega
  have e6 : m / 256 % 256 = g := by omega
  have q6 : m / 65536 = (((((a * 256 + b) * 256 + c) * 256 + d) * 256 + e) * 256 + f) + k * 281474976710656 := by omega
  have e5 : m / 65536 % 256 = f := by omega
  have q5 : m / 16777216 = ((((a * 256 + b) * 256 + c) * 256 + d) * 256 + e) + k * 1099511627776 := by omega
  have e4 : m / 16777216 % 256 = e := by omega
  have q4 : m / 4294967296 = (((a * 256 + b) * 256 + c) * 256 + d) + k * 4294967296 := by omega
  have e3 : m / 4294967296 % 256 = d := by omega
  have q3 : m / 1099511627776 = ((a * 256 + b) * 256 + c) + k * 16777216 := by omega
  have e2 : m / 1099511627776 % 256 = c := by omega
  have q2 : m / 281474976710656 = (a * 256 + b) + k * 65536 := by omega
  have e1 : m / 281474976710656 % 256 = b := by omega
  have q1 : m / 72057594037927936 = a + k * 256 := by omega
  have e0 : m / 72057594037927936 % 256 = a := by omega
  simp only [eight, e0, e1, e2, e3, e4, e5, e6, e7]
/-- Where bytes are put behind: bit by bit is as a sum. -/
theorem or_i64 (v c : Int) (h0 : 0 ≤ c) (h1 : c < 256) : bits .or .i64 (IntKind.i64.wrap (v * 256)) c = IntKind.i64.wrap (v * 256 + c) := by
  obtain ⟨m, hm⟩ : ∃ m : Nat, (IntKind.i64.wrap (v * 256) % 18446744073709551616).toNat = 256 * m := by
    refine ⟨(IntKind.i64.wrap (v * 256) % 18446744073709551616).toNat / 256, ?_⟩
    simp [IntKind.wrap, IntKind.signed, IntKind.bits]; omega
  have hc : (c % 18446744073709551616).toNat = c.toNat := by omega
  have hor : 256 * m ||| c.toNat = 256 * m + c.toNat := (Nat.two_pow_add_eq_or_of_lt (i := 8) (b := c.toNat) (by omega) m).symm
  simp only [bits, show IntKind.i64.bits = 64 from rfl, BitVec.toNat_or, BitVec.toNat_ofInt]
  simp only [show ((2 ^ 64 : Nat) : Int) = 18446744073709551616 from rfl]
  rw [hm, hc, hor]
  simp [IntKind.wrap, IntKind.signed, IntKind.bits] at hm ⊢
  omega
theorem or_u64 (v c : Int) (h0 : 0 ≤ c) (h1 : c < 256) : bits .or .u64 (IntKind.u64.wrap (v * 256)) c = IntKind.u64.wrap (v * 256 + c) := by
  obtain ⟨m, hm⟩ : ∃ m : Nat, (IntKind.u64.wrap (v * 256) % 18446744073709551616).toNat = 256 * m := by
    refine ⟨(IntKind.u64.wrap (v * 256) % 18446744073709551616).toNat / 256, ?_⟩
    simp [IntKind.wrap, IntKind.signed, IntKind.bits]; omega
  have hc : (c % 18446744073709551616).toNat = c.toNat := by omega
  have hor : 256 * m ||| c.toNat = 256 * m + c.toNat := (Nat.two_pow_add_eq_or_of_lt (i := 8) (b := c.toNat) (by omega) m).symm
  simp only [bits, show IntKind.u64.bits = 64 from rfl, BitVec.toNat_or, BitVec.toNat_ofInt]
  simp only [show ((2 ^ 64 : Nat) : Int) = 18446744073709551616 from rfl]
  rw [hm, hc, hor]
  simp [IntKind.wrap, IntKind.signed, IntKind.bits] at hm ⊢
  omega
theorem i64_wrap_wrap (p c : Int) : IntKind.i64.wrap (IntKind.i64.wrap p * 256 + c) = IntKind.i64.wrap (p * 256 + c) := by
  simp [IntKind.wrap, IntKind.signed, IntKind.bits]; omega
theorem u64_wrap_wrap (p c : Int) : IntKind.u64.wrap (IntKind.u64.wrap p * 256 + c) = IntKind.u64.wrap (p * 256 + c) := by
  simp [IntKind.wrap, IntKind.signed, IntKind.bits]; omega
theorem i64_of_u64 (p : Int) : IntKind.i64.wrap (IntKind.u64.wrap p) = IntKind.i64.wrap p := by
  simp [IntKind.wrap, IntKind.signed, IntKind.bits]
/-- One byte more, in the program's and in the document's way. -/
theorem num_step (L : List Int) (c : Int) (h0 : 0 ≤ c) (h1 : c < 256) : bits .or .i64 (IntKind.i64.wrap (IntKind.i64.wrap (poly L) * 256)) c = IntKind.i64.wrap (poly (L ++ [c])) := by
  rw [or_i64 _ _ h0 h1, i64_wrap_wrap, poly_snoc]
theorem num_stepU (L : List Int) (c : Int) (h0 : 0 ≤ c) (h1 : c < 256) : bits .or .u64 (IntKind.u64.wrap (IntKind.u64.wrap (poly L) * 256)) c = IntKind.u64.wrap (poly (L ++ [c])) := by
  rw [or_u64 _ _ h0 h1, u64_wrap_wrap, poly_snoc]
/-- May these be? -/
def mayB (most : Int) (L : List Int) : Bool := L.all fun v => decide (0 ≤ v ∧ v ≤ most)
def dayB (n : Int) : Bool := decide (-135140 ≤ n ∧ n ≤ 2932896)
def Ln.okB (x : Ln) : Bool := mayB 1000000000000000 [x.balance, x.interest] && mayB 10000000 [x.rate]
def sumLn (L : List Ln) : Int := (L.map Ln.balance).sum
/-- Which statements are right. -/
def Stm.rightB (s : Stm) : Bool :=
  decide (1 ≤ s.cycle ∧ s.cycle ≤ 300) && (dayB s.fr && dayB s.te && dayB s.due) && decide (s.fr ≤ s.te) && decide (s.te ≤ s.due) && decide (1 ≤ s.lines.length ∧ s.lines.length ≤ 8) &&
    mayB 1000000000000000 [s.total, s.credit, s.min] && decide (s.min ≤ s.total) && s.lines.all Ln.okB && decide (sumLn s.lines = s.total)
def Stm.head (s : Stm) : List Int := [s.cycle, s.fr, s.te, s.due, s.total, s.credit, s.min, if s.grace then 1 else 0, s.lines.length]
def Ln.nums (x : Ln) : List Int := [x.balance, x.interest, x.rate]
def Stm.nums (s : Stm) : List Int := s.head ++ s.lines.flatMap Ln.nums
def packN (L : List Int) : List Int := L.flatMap eight
theorem packN_length (L : List Int) : (packN L).length = 8 * L.length := by
  induction L with
  | nil => rfl
  | cons a l ih => rw [packN, List.flatMap_cons, List.length_append, eight_length]; rw [packN] at ih; rw [ih]; simp; omega
/-- The lines that stand at numbers from 9 on. -/
def lnAt (B : List Int) (k : Nat) : Ln := ⟨numAt B (9 + 3 * k), numAt B (9 + 3 * k + 1), numAt B (9 + 3 * k + 2)⟩
def lnsAt (B : List Int) : Nat → List Ln
  | 0 => []
  | n + 1 => lnsAt B n ++ [lnAt B n]
def stmAt (B : List Int) : Stm := ⟨numAt B 0, numAt B 1, numAt B 2, numAt B 3, numAt B 4, numAt B 5, numAt B 6, numAt B 7 == 1, lnsAt B (numAt B 8).toNat⟩
def stm0P : Stm := ⟨0, 0, 0, 0, 0, 0, 0, false, []⟩
/-- Which statement bytes are. -/
def takeErr (B : List Int) : Int :=
  if B.length < 64 then 3 else if numAt B 7 < 0 ∨ 1 < numAt B 7 then 4 else if B.length < 72 then 3 else if numAt B 8 < 1 ∨ 8 < numAt B 8 then 4
  else if (B.length : Int) < 72 + 24 * numAt B 8 then 3 else if (B.length : Int) = 72 + 24 * numAt B 8 ∧ (stmAt B).rightB = true then 0 else 4
def takeStm (B : List Int) : Stm := if takeErr B = 0 then stmAt B else stm0P
theorem lnsAt_length (B : List Int) (n : Nat) : (lnsAt B n).length = n := by induction n with
  | zero => rfl
  | succ n ih => simp [lnsAt, ih]
theorem numAt_packN {L : List Int} (hL : ∀ z ∈ L, -9223372036854775808 ≤ z ∧ z ≤ 9223372036854775807) {i : Nat} {v : Int} (h : L[i]? = some v) (T : List Int) : numAt (packN L ++ T) i = v := by
  induction L generalizing i with
  | nil => simp at h
  | cons a l ih =>
    cases i with
    | zero =>
      simp at h; subst h
      have : (packN (a :: l) ++ T).take 8 = eight a := by rw [packN, List.flatMap_cons, List.append_assoc, List.take_append_of_le_length (by rw [eight_length]; omega), List.take_of_length_le (by rw [eight_length]; omega)]
      simp only [numAt, Nat.mul_zero, List.drop_zero]; rw [this]; exact numOf_eight (hL a (by simp))
    | succ i =>
      have h' : l[i]? = some v := by simpa using h
      have hd : (packN (a :: l) ++ T).drop (8 * (i + 1)) = (packN l ++ T).drop (8 * i) := by
        rw [packN, List.flatMap_cons, List.append_assoc, List.drop_append, eight_length, List.drop_of_length_le (by rw [eight_length]; omega)]
        simp only [List.nil_append, packN]; congr 1
      simp only [numAt]; rw [hd]
      exact ih (fun z hz => hL z (by simp [hz])) h'
theorem numAt_take {B : List Int} {c i : Nat} (h : 8 * i + 8 ≤ c) : numAt (B.take c) i = numAt B i := by
  unfold numAt
  rw [List.drop_take, List.take_take]; congr 2; omega
theorem packN_append (L M : List Int) : packN (L ++ M) = packN L ++ packN M := List.flatMap_append
theorem sumLn_cons (x : Ln) (l : List Ln) : sumLn (x :: l) = x.balance + sumLn l := by simp [sumLn]
theorem mayB_iff {most : Int} {L : List Int} : mayB most L = true ↔ ∀ v ∈ L, 0 ≤ v ∧ v ≤ most := by simp [mayB]
/-- What a right statement's numbers are. -/
structure Stm.Right (s : Stm) : Prop where
  cycle : 1 ≤ s.cycle ∧ s.cycle ≤ 300
  fr : -135140 ≤ s.fr ∧ s.fr ≤ 2932896
  te : -135140 ≤ s.te ∧ s.te ≤ 2932896
  due : -135140 ≤ s.due ∧ s.due ≤ 2932896
  len : 1 ≤ s.lines.length ∧ s.lines.length ≤ 8
  total : 0 ≤ s.total ∧ s.total ≤ 1000000000000000
  credit : 0 ≤ s.credit ∧ s.credit ≤ 1000000000000000
  min : 0 ≤ s.min ∧ s.min ≤ 1000000000000000
  lines : ∀ x ∈ s.lines, (0 ≤ x.balance ∧ x.balance ≤ 1000000000000000) ∧ (0 ≤ x.interest ∧ x.interest ≤ 1000000000000000) ∧ (0 ≤ x.rate ∧ x.rate ≤ 10000000)
theorem Ln.ok_iff (x : Ln) : x.okB = true ↔ (0 ≤ x.balance ∧ x.balance ≤ 1000000000000000) ∧ (0 ≤ x.interest ∧ x.interest ≤ 1000000000000000) ∧ (0 ≤ x.rate ∧ x.rate ≤ 10000000) := by
  simp [Ln.okB, mayB, and_assoc]
theorem Stm.right_of {s : Stm} (h : s.rightB = true) : s.Right := by
  simp only [Stm.rightB, Bool.and_eq_true, decide_eq_true_eq, dayB, mayB_iff, List.all_eq_true, Ln.ok_iff] at h
  obtain ⟨⟨⟨⟨⟨⟨⟨⟨h1, ⟨h2, h3⟩, h4⟩, h5⟩, h6⟩, h7⟩, h8⟩, h9⟩, h10⟩, h11⟩ := h
  exact ⟨h1, h2, h3, h4, h7, h8 _ (by simp), h8 _ (by simp), h8 _ (by simp), h10⟩
theorem Stm.nums_length (s : Stm) : s.nums.length = 9 + 3 * s.lines.length := by
  have : ∀ L : List Ln, (L.flatMap Ln.nums).length = 3 * L.length := by
    intro L
    induction L with
    | nil => rfl
    | cons a l ih => simp [Ln.nums] at ih ⊢; omega
  unfold Stm.nums; rw [List.length_append, this]; simp [Stm.head]
theorem Stm.Right.nums {s : Stm} (h : s.Right) : ∀ z ∈ s.nums, -9223372036854775808 ≤ z ∧ z ≤ 9223372036854775807 := by
  intro z hz
  rcases List.mem_append.1 hz with hz | hz
  · have h1 := h.cycle; have h2 := h.fr; have h3 := h.te; have h4 := h.due; have h5 := h.len; have h6 := h.total; have h7 := h.credit; have h8 := h.min
    simp only [Stm.head, List.mem_cons, List.not_mem_nil, or_false] at hz
    rcases hz with rfl | rfl | rfl | rfl | rfl | rfl | rfl | rfl | rfl <;> first | omega | (split <;> omega)
  · obtain ⟨x, hx, hz⟩ := List.mem_flatMap.1 hz
    have h1 := h.lines x hx
    simp only [Ln.nums, List.mem_cons, List.not_mem_nil, or_false] at hz
    rcases hz with rfl | rfl | rfl <;> omega
theorem nums_line {L : List Ln} {k j : Nat} {x : Ln} (h : L[k]? = some x) (hj : j < 3) : (L.flatMap Ln.nums)[k * 3 + j]? = x.nums[j]? := by
  induction L generalizing k with
  | nil => simp at h
  | cons a l ih =>
    cases k with
    | zero => simp at h; subst h; rw [List.flatMap_cons, List.getElem?_append_left (by simp [Ln.nums]; omega)]; simp
    | succ k =>
      have h' : l[k]? = some x := by simpa using h
      rw [List.flatMap_cons, List.getElem?_append_right (by simp [Ln.nums]; omega), ← ih h']
      congr 1; simp [Ln.nums]; omega
theorem Stm.num_line {s : Stm} {k j : Nat} {x : Ln} (h : s.lines[k]? = some x) (hj : j < 3) : s.nums[9 + 3 * k + j]? = x.nums[j]? := by
  rw [Stm.nums, List.getElem?_append_right (by simp [Stm.head]; omega), ← nums_line h hj]
  congr 1; simp [Stm.head]; omega
theorem lnsAt_pack {s : Stm} (h : s.Right) (T : List Int) (n : Nat) (hn : n ≤ s.lines.length) : lnsAt (packN s.nums ++ T) n = s.lines.take n := by
  induction n with
  | zero => rfl
  | succ n ih =>
    obtain ⟨x, hx⟩ := get_some (L := s.lines) (k := n) (by omega)
    rw [lnsAt, ih (by omega), take_snoc' hx]
    congr 2
    have e0 := numAt_packN h.nums (i := 9 + 3 * n) (v := x.balance) (by have := Stm.num_line hx (j := 0) (by decide); simpa [Ln.nums] using this) T
    have e1 := numAt_packN h.nums (i := 9 + 3 * n + 1) (v := x.interest) (by have := Stm.num_line hx (j := 1) (by decide); simpa [Ln.nums] using this) T
    have e2 := numAt_packN h.nums (i := 9 + 3 * n + 2) (v := x.rate) (by have := Stm.num_line hx (j := 2) (by decide); simpa [Ln.nums] using this) T
    simp only [lnAt, e0, e1, e2]
theorem head_at {s : Stm} (h : s.Right) (T : List Int) {i : Nat} {v : Int} (hi : s.head[i]? = some v) : numAt (packN s.nums ++ T) i = v := by
  refine numAt_packN h.nums ?_ T
  rw [Stm.nums, List.getElem?_append_left (lt_of_get hi)]; exact hi
theorem stmAt_pack {s : Stm} (h : s.Right) (T : List Int) : stmAt (packN s.nums ++ T) = s := by
  have e8 := head_at h T (i := 8) rfl
  unfold stmAt
  rw [head_at h T (i := 0) rfl, head_at h T (i := 1) rfl, head_at h T (i := 2) rfl, head_at h T (i := 3) rfl, head_at h T (i := 4) rfl, head_at h T (i := 5) rfl, head_at h T (i := 6) rfl, head_at h T (i := 7) rfl, e8]
  rw [show ((s.lines.length : Nat) : Int).toNat = s.lines.length by omega, lnsAt_pack h T _ (Nat.le_refl _), List.take_length]
  obtain ⟨c, f, t, d, to, cr, mi, g, l⟩ := s
  cases g <;> rfl
/-- What is packed is taken. -/
theorem take_pack {s : Stm} (h : s.rightB = true) : takeErr (packN s.nums) = 0 ∧ takeStm (packN s.nums) = s := by
  have hr := Stm.right_of h
  have e7 := head_at hr [] (i := 7) rfl
  have e8 := head_at hr [] (i := 8) rfl
  have hs := stmAt_pack hr []
  have hl : (packN s.nums).length = 72 + 24 * s.lines.length := by rw [packN_length, Stm.nums_length]; omega
  rw [List.append_nil] at e7 e8 hs
  have hn := hr.len
  have h0 : takeErr (packN s.nums) = 0 := by
    unfold takeErr
    rw [hs, e7, e8, hl, if_neg (by omega), if_neg (by split <;> omega), if_neg (by omega), if_neg (by omega), if_neg (by omega), if_pos ⟨by omega, h⟩]
  exact ⟨h0, by rw [takeStm, if_pos h0, hs]⟩
/-- A beginning is too short. -/
theorem take_short {s : Stm} (h : s.rightB = true) {c : Nat} (hc : c < (packN s.nums).length) : takeErr ((packN s.nums).take c) = 3 := by
  have hr := Stm.right_of h
  have e7 := head_at hr [] (i := 7) rfl
  have e8 := head_at hr [] (i := 8) rfl
  have hl : (packN s.nums).length = 72 + 24 * s.lines.length := by rw [packN_length, Stm.nums_length]; omega
  rw [List.append_nil] at e7 e8
  have hn := hr.len
  have hlc : ((packN s.nums).take c).length = c := by rw [List.length_take]; omega
  unfold takeErr
  rw [hlc]
  by_cases h64 : c < 64
  · rw [if_pos h64]
  · rw [if_neg h64, numAt_take (by omega), e7, if_neg (by split <;> omega)]
    by_cases h72 : c < 72
    · rw [if_pos h72]
    · rw [if_neg h72, numAt_take (by omega), e8, if_neg (by omega), if_pos (by omega)]
theorem drop_take_bytes {B : List Int} (hB : ∀ z ∈ B, 0 ≤ z ∧ z ≤ 255) (i n : Nat) : ∀ z ∈ (B.drop i).take n, 0 ≤ z ∧ z ≤ 255 :=
  fun z hz => hB z (List.mem_of_mem_drop (List.mem_of_mem_take hz))
theorem packN_range {B : List Int} (hB : ∀ z ∈ B, 0 ≤ z ∧ z ≤ 255) (m : Nat) (h : 8 * m ≤ B.length) : packN ((List.range m).map (numAt B)) = B.take (8 * m) := by
  induction m with
  | zero => simp [packN]
  | succ m ih =>
    rw [List.range_succ, List.map_append, packN_append, ih (by omega)]
    have e : packN ([m].map (numAt B)) = (B.drop (8 * m)).take 8 := by
      simp only [packN, List.map_cons, List.map_nil, List.flatMap_cons, List.flatMap_nil, List.append_nil]
      exact eight_numOf (by rw [List.length_take, List.length_drop]; omega) (drop_take_bytes hB _ _)
    rw [e, ← List.take_add]; congr 1
theorem lnsAt_nums (B : List Int) (n : Nat) : (lnsAt B n).flatMap Ln.nums = (List.range (3 * n)).map fun j => numAt B (9 + j) := by
  induction n with
  | zero => rfl
  | succ n ih =>
    rw [lnsAt, List.flatMap_append, ih, show 3 * (n + 1) = 3 * n + 1 + 1 + 1 by omega, List.range_succ, List.range_succ, List.range_succ]
    simp [lnAt, Ln.nums, Nat.add_assoc]
/-- What is taken, packed again, is the same bytes. -/
theorem pack_take {B : List Int} (hB : ∀ z ∈ B, 0 ≤ z ∧ z ≤ 255) (h : takeErr B = 0) : (takeStm B).rightB = true ∧ packN (takeStm B).nums = B := by
  rw [takeStm, if_pos h]
  unfold takeErr at h
  split at h; · simp at h
  rename_i h64
  split at h; · simp at h
  rename_i h7
  split at h; · simp at h
  rename_i h72
  split at h; · simp at h
  rename_i h8
  split at h; · simp at h
  rename_i hn
  split at h
  · rename_i hr
    refine ⟨hr.2, ?_⟩
    obtain ⟨n, hn'⟩ : ∃ n : Nat, numAt B 8 = n := ⟨(numAt B 8).toNat, by omega⟩
    have hnums : (stmAt B).nums = (List.range (9 + 3 * n)).map (numAt B) := by
      have ht : (numAt B 8).toNat = n := by omega
      have e7 : (if (numAt B 7 == 1) = true then (1 : Int) else 0) = numAt B 7 := by
        by_cases h1 : numAt B 7 = 1
        · simp [h1]
        · have : numAt B 7 = 0 := by omega
          simp [this]
      unfold Stm.nums stmAt Stm.head
      simp only [lnsAt_length, lnsAt_nums, ht]
      rw [e7, List.range_add, List.map_append, List.map_map, ← hn']
      rfl
    rw [hnums, packN_range hB _ (by omega), List.take_of_length_le (by omega)]
  · simp at h
end Go.Proofs.YthokcmbgamanbaaDoor
