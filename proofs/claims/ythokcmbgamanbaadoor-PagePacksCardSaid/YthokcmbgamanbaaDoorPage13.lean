/- PageTurned: with a byte turned, or more behind, a statement is taken as the document takes it: another one, or none. -/
import Derived.Test.YthokcmbgamanbaaDoorPage9
import Derived.Test.YthokcmbgamanbaaDoorPage12
namespace Go.Proofs.YthokcmbgamanbaaDoor
open Go.RowKit
theorem rpageTake_at {w : World} {ad : Option Addr} {cap n : Nat} {X : List Int} (hr : Reads w 1 (.slice ad n cap) n (X.flatMap u8c)) (hn : X.length = n) (hX : ∀ z ∈ X, 0 ≤ z ∧ z ≤ 255) (hl : n ≤ 1000000) {s : Stm} {err : Int} (hs : takeStm X = s) (he : takeErr X = err) :
    Calls Tryd.prog 15 #[.slice ad n cap] w fun e w' => ∃ ad' cap', e = .returned (.tuple #[.agg #[.int .i64 s.cycle, .int .i64 s.fr, .int .i64 s.te, .int .i64 s.due, .slice ad' s.lines.length cap', .int .i64 s.total, .int .i64 s.credit, .int .i64 s.min, .bool s.grace], .int .i64 err]) ∧
      Reads w' 3 (.slice ad' s.lines.length cap') s.lines.length (s.lines.flatMap Ln.cells) ∧ Keeps (fun _ => False) w w' := by
  subst hn hs he
  refine (rpageTake_any ad cap X w hr hX hl).mono ?_
  rintro e w' ⟨v, rfl, hrow, _, hk⟩
  obtain ⟨ad', cap', rfl, _, _⟩ := ownsRow_shape hrow
  exact ⟨ad', cap', rfl, Reads.of_owns hrow, hk⟩
theorem rpagePack_at {w : World} {s : Stm} {ad : Option Addr} {cap n : Nat} (hr : Reads w 3 (.slice ad s.lines.length cap) s.lines.length (s.lines.flatMap Ln.cells)) (hl : s.lines.length ≤ 1000000) {X : List Int} {err : Int} (hX : packB s = X) (he : packErr s = err) (hn : X.length = n) :
    Calls Tryd.prog 13 #[.agg #[.int .i64 s.cycle, .int .i64 s.fr, .int .i64 s.te, .int .i64 s.due, .slice ad s.lines.length cap, .int .i64 s.total, .int .i64 s.credit, .int .i64 s.min, .bool s.grace]] w fun e w' => ∃ ad' cap', e = .returned (.tuple #[.slice ad' n cap', .int .i64 err]) ∧ w'.ownsRow 0 5 1 (.slice ad' n cap') n (X.flatMap u8c) ∧ (∀ g, (Value.slice ad' n cap').ownBlock = some g → w.heap.size ≤ g) ∧ Keeps (fun _ => False) w w' := by
  subst hX he hn
  refine (rpagePack_any s ad cap w hr hl).mono ?_
  rintro e w' ⟨v, rfl, hf⟩
  have hrow := hf.row
  obtain ⟨ad', cap', rfl, hc, _⟩ := ownsRow_shape hrow
  exact ⟨ad', cap', rfl, hrow, hf.nw, hf.kp⟩
theorem takeStm_len {B : List Int} (hB : ∀ z ∈ B, 0 ≤ z ∧ z ≤ 255) : (takeStm B).lines.length ≤ 8 := by
  by_cases h0 : takeErr B = 0
  · exact (Stm.right_of (pack_take hB h0).1).len.2
  · rw [takeStm, if_neg h0]; exact Nat.zero_le _
theorem xor_byte {a b : Int} (h0 : 0 ≤ a ∧ a ≤ 255) (h1 : 0 ≤ b ∧ b ≤ 255) : ∃ z : Int, bits .xor .u8 a b = z ∧ 0 ≤ z ∧ z ≤ 255 := by
  obtain ⟨a, rfl⟩ := Int.eq_ofNat_of_zero_le h0.1
  obtain ⟨b, rfl⟩ := Int.eq_ofNat_of_zero_le h1.1
  refine ⟨_, u8_xor_nat a b (by omega) (by omega), by omega, ?_⟩
  have := Nat.xor_lt_two_pow (n := 8) (x := a) (y := b) (by omega) (by omega)
  omega
theorem bytes_set {w : World} {g cap n k : Nat} {X : List Int} {y : Int} (h : w.ownsRow 0 5 1 (.slice (some ⟨g, 0, none⟩) n cap) n (X.flatMap u8c)) : (w.setCell ⟨g, k, none⟩ (.int .u8 y)).ownsRow 0 5 1 (.slice (some ⟨g, 0, none⟩) n cap) n ((X.set k y).flatMap u8c) := by
  have := (h.stored k (.int .u8 y)).1
  rw [flat_u8c, ← List.map_set, ← flat_u8c] at this
  exact this
end Go.Proofs.YthokcmbgamanbaaDoor
