/- PageBack: what is packed is taken; what is taken, packed again, is the same bytes; a beginning is too short. -/
import Derived.Test.YthokcmbgamanbaaDoorPage8
namespace Go.Proofs.YthokcmbgamanbaaDoor
open Go.RowKit
theorem umod (x n : Int) (h0 : 0 < n) (h1 : n ≤ 1000000000000) : ∃ k : Nat, (k : Int) < n ∧ wrap64 ((IntKind.u64.wrap x).tmod n) = k := by
  have h2 : 0 ≤ IntKind.u64.wrap x := by simp [IntKind.wrap, IntKind.signed, IntKind.bits]; omega
  have e1 : (IntKind.u64.wrap x).tmod n = IntKind.u64.wrap x % n := Int.tmod_eq_emod_of_nonneg h2
  have e2 : 0 ≤ IntKind.u64.wrap x % n := Int.emod_nonneg _ (by omega)
  have e3 : IntKind.u64.wrap x % n < n := Int.emod_lt_of_pos _ h0
  refine ⟨(IntKind.u64.wrap x % n).toNat, by omega, ?_⟩
  rw [e1]
  generalize IntKind.u64.wrap x % n = m at *
  unfold wrap64
  omega
theorem pageTake_at {w : World} {ad : Option Addr} {cap n : Nat} {X : List Int} (hr : Reads w 1 (.slice ad n cap) n (X.flatMap u8c)) (hn : X.length = n) (hX : ∀ z ∈ X, 0 ≤ z ∧ z ≤ 255) (hl : n ≤ 1000000) {s : Stm} {err : Int} (hs : takeStm X = s) (he : takeErr X = err) :
    Calls Tryd.prog 14 #[.slice ad n cap] w fun e w' => ∃ ad' cap', e = .returned (.tuple #[.agg #[.int .i64 s.cycle, .int .i64 s.fr, .int .i64 s.te, .int .i64 s.due, .slice ad' s.lines.length cap', .int .i64 s.total, .int .i64 s.credit, .int .i64 s.min, .bool s.grace], .int .i64 err]) ∧
      Reads w' 3 (.slice ad' s.lines.length cap') s.lines.length (s.lines.flatMap Ln.cells) ∧ Keeps (fun _ => False) w w' := by
  subst hn hs he
  refine (pageTake_any ad cap X w hr hX hl).mono ?_
  rintro e w' ⟨v, rfl, hrow, _, hk⟩
  obtain ⟨ad', cap', rfl, _, _⟩ := ownsRow_shape hrow
  exact ⟨ad', cap', rfl, Reads.of_owns hrow, hk⟩
theorem pagePack_at {w : World} {s : Stm} {ad : Option Addr} {cap n : Nat} (hr : Reads w 3 (.slice ad s.lines.length cap) s.lines.length (s.lines.flatMap Ln.cells)) (hl : s.lines.length ≤ 1000000) {X : List Int} {err : Int} (hX : packB s = X) (he : packErr s = err) (hn : X.length = n) :
    Calls Tryd.prog 7 #[.agg #[.int .i64 s.cycle, .int .i64 s.fr, .int .i64 s.te, .int .i64 s.due, .slice ad s.lines.length cap, .int .i64 s.total, .int .i64 s.credit, .int .i64 s.min, .bool s.grace]] w fun e w' => ∃ ad' cap', e = .returned (.tuple #[.slice ad' n cap', .int .i64 err]) ∧ Reads w' 1 (.slice ad' n cap') n (X.flatMap u8c) ∧ n ≤ cap' ∧ Keeps (fun _ => False) w w' := by
  subst hX he hn
  refine (pagePack_any s ad cap w hr hl).mono ?_
  rintro e w' ⟨v, rfl, hf⟩
  have hrow := hf.row
  obtain ⟨ad', cap', rfl, hc, _⟩ := ownsRow_shape hrow
  exact ⟨ad', cap', rfl, Reads.of_owns hrow, hc, hf.kp⟩
theorem rpageRight_at {w : World} {s : Stm} {ad : Option Addr} {cap : Nat} (hr : Reads w 3 (.slice ad s.lines.length cap) s.lines.length (s.lines.flatMap Ln.cells)) (hl : s.lines.length ≤ 1000000) {b : Bool} (hb : s.rightB = b) :
    Calls Tryd.prog 16 #[.agg #[.int .i64 s.cycle, .int .i64 s.fr, .int .i64 s.te, .int .i64 s.due, .slice ad s.lines.length cap, .int .i64 s.total, .int .i64 s.credit, .int .i64 s.min, .bool s.grace]] w fun e w' => e = .returned (.bool b) ∧ Keeps (fun _ => False) w w' := by
  subst hb; exact rpageRight_any s ad cap w hr hl
theorem sameStm_at {w : World} {s : Stm} {v1 v2 : Value} (h1 : Reads w 3 v1 s.lines.length (s.lines.flatMap Ln.cells)) (h2 : Reads w 3 v2 s.lines.length (s.lines.flatMap Ln.cells)) (hl : s.lines.length ≤ 1000000) :
    Calls Tryd.prog 18 #[.agg #[.int .i64 s.cycle, .int .i64 s.fr, .int .i64 s.te, .int .i64 s.due, v1, .int .i64 s.total, .int .i64 s.credit, .int .i64 s.min, .bool s.grace], .agg #[.int .i64 s.cycle, .int .i64 s.fr, .int .i64 s.te, .int .i64 s.due, v2, .int .i64 s.total, .int .i64 s.credit, .int .i64 s.min, .bool s.grace]] w fun e w' => e = .returned (.bool true) ∧ Keeps (fun _ => False) w w' :=
  sameStm_any s v1 v2 w h1 h2 (by omega)
theorem packB_bytes (s : Stm) : ∀ z ∈ packB s, 0 ≤ z ∧ z ≤ 255 := by
  intro z hz
  unfold packB at hz
  split at hz
  · obtain ⟨x, _, hx⟩ := List.mem_flatMap.1 hz
    exact eight_bytes x z hx
  · simp at hz
theorem packB_length (s : Stm) : (packB s).length ≤ 264 := by
  unfold packB
  split
  · rename_i h
    have := (Stm.right_of h).len
    rw [packN_length, Stm.nums_length]; omega
  · simp
/-- The worlds of the law's walk: what was there stays, and the statement's own block. -/
structure BW (s : Stm) (v : Value) (w W : World) : Prop where
  kp : Keeps (fun _ => False) w W
  blk : W.heap[w.heap.size]? = some (.cells #[.int .i64 s.cycle, .int .i64 s.fr, .int .i64 s.te, .int .i64 s.due, v, .int .i64 s.total, .int .i64 s.credit, .int .i64 s.min, .bool s.grace] 26 (0, 0))
theorem BW.step {s : Stm} {v : Value} {w W W' : World} (h : BW s v w W) (hk : Keeps (fun _ => False) W W') : BW s v w W' := ⟨h.kp.none_trans hk, box_old h.blk hk (by simp)⟩
theorem BW.start {s : Stm} {v : Value} {w W : World} (hk : Keeps (fun _ => False) (w.alloc (.cells #[.int .i64 s.cycle, .int .i64 s.fr, .int .i64 s.te, .int .i64 s.due, v, .int .i64 s.total, .int .i64 s.credit, .int .i64 s.min, .bool s.grace] 26)) W) : BW s v w W := ⟨(Keeps.alloc _ _).none_trans hk, box_new hk (by simp)⟩
end Go.Proofs.YthokcmbgamanbaaDoor
