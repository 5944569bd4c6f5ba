/- Statements, as the program has them. -/
import Derived.Test.YthokcmbgamanbaaDoorKit4
namespace Go.Proofs.YthokcmbgamanbaaDoor
open Go.RowKit
/-- Ln, as the program has it. -/
structure Ln where
  balance : Int
  interest : Int
  rate : Int
deriving DecidableEq, Inhabited
def Ln.cells (d : Ln) : List Value := [.int .i64 d.balance, .int .i64 d.interest, .int .i64 d.rate]
theorem Ln.cells_length (d : Ln) : d.cells.length = 3 := rfl
theorem Ln.one (L : List Ln) : ∀ u ∈ L.flatMap Ln.cells, u.oneCell' = true := by
  intro u hu
  obtain ⟨d, _, hd⟩ := List.mem_flatMap.1 hu
  simp only [Ln.cells, List.mem_cons, List.not_mem_nil, or_false] at hd
  rcases hd with rfl | rfl | rfl <;> rfl
/-- A statement, as the program has it. -/
structure Stm where
  cycle : Int
  fr : Int
  te : Int
  due : Int
  total : Int
  credit : Int
  min : Int
  grace : Bool
  lines : List Ln
/-- A statement's value; the slice of its lines is given. -/
def Stm.val (s : Stm) (v : Value) : Value := .agg #[.int .i64 s.cycle, .int .i64 s.fr, .int .i64 s.te, .int .i64 s.due, v, .int .i64 s.total, .int .i64 s.credit, .int .i64 s.min, .bool s.grace]
theorem info_tLine : (Tryd.prog.info? 30).map (fun i => (i.zero, i.size, i.bytes)) = some (some (.agg #[.int .i64 0, .int .i64 0, .int .i64 0]), 3, 24) := by kernel_rfl
theorem info_tStm : (Tryd.prog.info? 26).map (fun i => (i.zero, i.size, i.bytes)) = some (some (.agg #[.int .i64 0, .int .i64 0, .int .i64 0, .int .i64 0, .slice none 0 0, .int .i64 0, .int .i64 0, .int .i64 0, .bool false]), 9, 88) := by kernel_rfl
/-- A statement and the slice of its lines, as they lie in a row. -/
structure SV where
  s : Stm
  ad : Option Addr
  cap : Nat
def SV.v (x : SV) : Value := .slice x.ad x.s.lines.length x.cap
def SV.cells (x : SV) : List Value := [.int .i64 x.s.cycle, .int .i64 x.s.fr, .int .i64 x.s.te, .int .i64 x.s.due, x.v, .int .i64 x.s.total, .int .i64 x.s.credit, .int .i64 x.s.min, .bool x.s.grace]
theorem SV.cells_length (x : SV) : x.cells.length = 9 := rfl
end Go.Proofs.YthokcmbgamanbaaDoor
