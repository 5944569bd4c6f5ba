/- Scripts, plainly: which terms and commands bytes are. -/
import Derived.Test.YthokcmbgamanbaaKit4
namespace Go.Proofs.Ythokcmbgamanbaa
open Go.RowKit
/-- Tr, as the program has it. -/
structure Tr where
  rate : Int
  grace : Bool
deriving DecidableEq, Inhabited
def Tr.cells (d : Tr) : List Value := [.int .i64 d.rate, .bool d.grace]
theorem Tr.cells_length (d : Tr) : d.cells.length = 2 := rfl
theorem Tr.one (L : List Tr) : ∀ u ∈ L.flatMap Tr.cells, u.oneCell' = true := by
  intro u hu
  obtain ⟨d, _, hd⟩ := List.mem_flatMap.1 hu
  simp only [Tr.cells, List.mem_cons, List.not_mem_nil, or_false] at hd
  rcases hd with rfl | rfl <;> rfl
/-- Cmd, as the program has it. -/
structure Cmd where
  kind : Int
  day : Int
  tranche : Int
  amount : Int
  ref : Int
deriving DecidableEq, Inhabited
def Cmd.cells (d : Cmd) : List Value := [.int .i64 d.kind, .int .i64 d.day, .int .i64 d.tranche, .int .i64 d.amount, .int .i64 d.ref]
theorem Cmd.cells_length (d : Cmd) : d.cells.length = 5 := rfl
theorem Cmd.one (L : List Cmd) : ∀ u ∈ L.flatMap Cmd.cells, u.oneCell' = true := by
  intro u hu
  obtain ⟨d, _, hd⟩ := List.mem_flatMap.1 hu
  simp only [Cmd.cells, List.mem_cons, List.not_mem_nil, or_false] at hd
  rcases hd with rfl | rfl | rfl | rfl | rfl <;> rfl
/-- Terms, as the program has them. -/
structure Tm where
  limit : Int
  trs : List Tr
  cycleDay : Int
  dueDays : Int
  minFixed : Int
  minPart : Int
  start : Int
/-- Terms in memory: the slice's value is given. -/
def Tm.cells (t : Tm) (v : Value) : Array Value := #[.int .i64 t.limit, v, .int .i64 t.cycleDay, .int .i64 t.dueDays, .int .i64 t.minFixed, .int .i64 t.minPart, .int .i64 t.start]
def scrN (B : List Int) : Nat := (bt B 0 % 3 + 1).toNat
def scrTr (B : List Int) (k : Nat) : Tr := ⟨bt B k * 10000, bt B (k + 1) % 2 == 1⟩
def scrTrs (B : List Int) : Nat → List Tr
  | 0 => []
  | n + 1 => scrTrs B n ++ [scrTr B (1 + 2 * n)]
def scrO (B : List Int) : Nat := 1 + 2 * scrN B
def scrTerms (B : List Int) : Tm :=
  ⟨bt B (scrO B + 2) * 1000, scrTrs B (scrN B), bt B (scrO B) % 28 + 1, bt B (scrO B + 1) % 25 + 1, bt B (scrO B + 3), bt B (scrO B + 4) % 100, 10957 + bt B (scrO B + 5)⟩
/-- A command, of four bytes, on a day. -/
def cmdOf (today a x c d : Int) : Cmd :=
  let k := a % 11 + 1
  if k = 1 ∨ k = 4 then ⟨k, 0, x % 4, 256 * c + d, 0⟩
  else if k = 2 then ⟨k, 0, 0, 256 * c + d, 0⟩
  else if k = 3 then ⟨k, today - d, x % 4, 256 * c + d, 0⟩
  else if k = 7 then ⟨k, 0, x % 4, (256 * c + d) * 100, 0⟩
  else if k = 8 then ⟨k, d % 40 + 1, 0, 0, 0⟩
  else if k = 5 ∨ k = 6 ∨ k = 10 ∨ k = 11 then ⟨k, 0, 0, 0, c % 8 + 1⟩
  else ⟨k, 0, 0, 0, 0⟩
def cmdAt (B : List Int) (today : Int) (k : Nat) : Cmd := cmdOf today (bt B k) (bt B (k + 1)) (bt B (k + 2)) (bt B (k + 3))
def tickOf (c : Cmd) : Int := if c.kind = 8 then c.day else 0
/-- The day, and the commands, behind j of them. -/
def scrDay (B : List Int) : Nat → Int
  | 0 => 10957 + bt B (scrO B + 5)
  | j + 1 => scrDay B j + tickOf (cmdAt B (scrDay B j) (scrO B + 6 + 4 * j))
def scrCmds (B : List Int) : Nat → List Cmd
  | 0 => []
  | j + 1 => scrCmds B j ++ [cmdAt B (scrDay B j) (scrO B + 6 + 4 * j)]
/-- How many commands there are. -/
def scrM (B : List Int) : Nat := min 200 ((B.length - (scrO B + 6) + 3) / 4)
theorem scrN_bd {B : List Int} (h : ByOk B) : 1 ≤ scrN B ∧ scrN B ≤ 3 := by have := bt_bd h 0; unfold scrN; omega
theorem scrTrs_length (B : List Int) (n : Nat) : (scrTrs B n).length = n := by induction n with
  | zero => rfl
  | succ n ih => simp [scrTrs, ih]
theorem scrCmds_length (B : List Int) (n : Nat) : (scrCmds B n).length = n := by induction n with
  | zero => rfl
  | succ n ih => simp [scrCmds, ih]
theorem tickOf_bd {B : List Int} (h : ByOk B) (t : Int) (k : Nat) : 0 ≤ tickOf (cmdAt B t k) ∧ tickOf (cmdAt B t k) ≤ 40 := by
  have := bt_bd h k
  have := bt_bd h (k + 3)
  unfold tickOf cmdAt cmdOf
  simp only
  split <;> (try split) <;> (try split) <;> (try split) <;> (try split) <;> (try split) <;> (try split) <;> simp_all <;> omega
theorem scrDay_bd {B : List Int} (h : ByOk B) (j : Nat) : 10957 ≤ scrDay B j ∧ scrDay B j ≤ 11212 + 40 * j := by
  induction j with
  | zero => have := bt_bd h (scrO B + 5); unfold scrDay; omega
  | succ j ih => have := tickOf_bd h (scrDay B j) (scrO B + 6 + 4 * j); unfold scrDay; omega
end Go.Proofs.Ythokcmbgamanbaa
