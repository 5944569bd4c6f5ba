/- AdjustOnto, walked: what stands at a place of a step. -/
import Derived.Test.YthokcmbgamanbaaAdjPlain
import Derived.Test.YthokcmbgamanbaaAdj11
namespace Go.Proofs.Ythokcmbgamanbaa
open Go.RowKit
/-- A slice of numbers, as it lies in a slice of slices. -/
structure SI where
  ad : Option Addr
  cap : Nat
  L : List Int
def SI.v (x : SI) : Value := .slice x.ad x.L.length x.cap
def SI.cells (x : SI) : List Value := [x.v]
theorem SI.cells_length (x : SI) : x.cells.length = 1 := rfl
def SIs (w : World) (S : List SI) : Prop := ∀ x ∈ S, Reads w 1 x.v x.L.length (x.L.flatMap i64c) ∧ x.L.length ≤ maxLen
theorem SIs.keep {w w' : World} {S : List SI} (h : SIs w S) (hk : Keeps (fun _ => False) w w') : SIs w' S := fun x hx => ⟨(h x hx).1.keeps hk (by simp), (h x hx).2⟩
def atV (L : List Int) (k : Nat) : Int := match L[k]? with | some v => (IntKind.u64.wrap v).tmod 100000 | none => 0
theorem atV_bd (L : List Int) (k : Nat) : 0 ≤ atV L k ∧ atV L k ≤ 99999 := by
  unfold atV
  split
  · rename_i v _
    rw [IntKind.wrap_u64 v]
    have h0 : (0 : Int) ≤ v % 18446744073709551616 := Int.emod_nonneg _ (by omega)
    rw [Int.tmod_eq_emod_of_nonneg h0]; constructor <;> omega
  · simp
set_option maxRecDepth 100000 in
set_option maxHeartbeats 800000 in
theorem adjAt_any (k i n gs os cs : Nat) (B2 B6 : Nat) (x : SI) (w : World) (h2 : w.cell? ⟨B2, 0, none⟩ = some (.slice (some ⟨gs, os, none⟩) n cs)) (h6 : w.cell? ⟨B6, 0, none⟩ = some (.int .i64 (i : Nat))) (hx : w.cell? ⟨gs, os + i, none⟩ = some x.v)
    (hr : Reads w 1 x.v x.L.length (x.L.flatMap i64c)) (hl : x.L.length ≤ maxLen) (hin : i < n) (hk : k ≤ 100) (hn : n ≤ 1000) {z : Int} (hz : atV x.L k = z) :
    Calls Try.prog 26 #[.int .i64 (k : Nat), (.pointer (some ⟨B2, 0, none⟩)), (.pointer (some ⟨B6, 0, none⟩))] w fun e w' => e = .returned (.int .i64 z) ∧ w = w' := by
  obtain ⟨ad, cap, L⟩ := x
  simp only [SI.v] at hx hr hl hz
  unfold maxLen at hl
  have hinI : (i : Int) < (n : Int) := by omega
  by_cases hkl : k < L.length
  · obtain ⟨v, hv⟩ := get_some hkl
    obtain ⟨g, o, rfl, hc⟩ := Reads.int (k := .i64) (show Reads w 1 _ _ (L.flatMap fun z => [Value.int .i64 z]) from hr) hv
    have hz' : (IntKind.u64.wrap v).tmod 100000 = z := by rw [← hz]; unfold atV; rw [hv]
    have hb := atV_bd L k
    rw [hz] at hb
    obtain ⟨b0, b1⟩ := hb
    obtain ⟨m, hm⟩ : ∃ m, L.length = m := ⟨_, rfl⟩
    rw [hm] at hx hkl hl
    have hkI : (k : Int) < (m : Int) := by omega
    have hw : IntKind.i64.wrap z = z := IntWalk.i64_in _ ⟨by omega, by omega⟩
    have Hr := Lib.hid hr; clear hr; have Hv := Lib.hid hv; clear hv; have Hz := Lib.hid hz; clear hz; have Hm := Lib.hid hm; clear hm
    go_enter Try.func26, Try.ntmps26
    go_wp2
    go_ret
    exact ⟨rfl, rfl⟩
  · have hz' : z = 0 := by rw [← hz]; unfold atV; rw [List.getElem?_eq_none (by omega)]
    subst hz'
    obtain ⟨m, hm⟩ : ∃ m, L.length = m := ⟨_, rfl⟩
    rw [hm] at hx hkl hl
    have hkI : ¬ (k : Int) < (m : Int) := by omega
    have Hr := Lib.hid hr; clear hr; have Hz := Lib.hid hz; clear hz; have Hm := Lib.hid hm; clear hm
    go_enter Try.func26, Try.ntmps26
    go_wp2
    go_ret
    exact ⟨rfl, rfl⟩
theorem adjAt_at (y : Int) (k i n gs os cs : Nat) (B2 B6 : Nat) (x : SI) (w : World) (hy : y = (k : Nat)) (h2 : w.cell? ⟨B2, 0, none⟩ = some (.slice (some ⟨gs, os, none⟩) n cs)) (h6 : w.cell? ⟨B6, 0, none⟩ = some (.int .i64 (i : Nat))) (hx : w.cell? ⟨gs, os + i, none⟩ = some x.v)
    (hr : Reads w 1 x.v x.L.length (x.L.flatMap i64c)) (hl : x.L.length ≤ maxLen) (hin : i < n) (hk : k ≤ 100) (hn : n ≤ 1000) :
    Calls Try.prog 26 #[.int .i64 y, (.pointer (some ⟨B2, 0, none⟩)), (.pointer (some ⟨B6, 0, none⟩))] w fun e w' => e = .returned (.int .i64 (atV x.L k)) ∧ w = w' := by
  subst hy; exact adjAt_any k i n gs os cs B2 B6 x w h2 h6 hx hr hl hin hk hn rfl
def pageLn (L : List Int) (k : Nat) : Ln := ⟨atV L (2 * k), atV L (2 * k + 1), 5⟩
/-- The statement that a step becomes. -/
def pageOf (N i : Nat) (L : List Int) : Stm := ⟨2, 1, 2, 0, atV L 9, atV L 10, atV L 11, ((i : Int) % 3 == 1), (List.range N).map (pageLn L)⟩
/-- The inner loop: the statement's block, and its row of lines so far. -/
structure InL (wr wx : World) (B : Nat) (g : Bool) (L : List Int) (k : Nat) (v : Value) : Prop where
  blk : wx.heap[B]? = some (.cells #[.int .i64 2, .int .i64 1, .int .i64 2, .int .i64 0, v, .int .i64 0, .int .i64 0, .int .i64 0, .bool g] 44 (0, 0))
  row : wx.ownsRow 0 62 3 v k (((List.range k).map (pageLn L)).flatMap Ln.cells)
  kp : Keeps (fun _ => False) wr wx
  nw : ∀ g, v.ownBlock = some g → B < g
  lo : wr.heap.size ≤ B
theorem InL.keep {wr wx W : World} {B : Nat} {g : Bool} {L : List Int} {k : Nat} {v : Value} (h : InL wr wx B g L k v) (hk : Keeps (fun _ => False) wx W) : InL wr W B g L k v := ⟨box_old h.blk hk (by simp), hk.row h.row (by simp), h.kp.none_trans hk, h.nw, h.lo⟩
theorem InL.app {wr W w5 : World} {B m : Nat} {g : Bool} {L : List Int} {k : Nat} {v v' : Value} {xs : List Value} (h : InL wr W B g L k v) (hm : m = k + 1) (hx : xs = ((List.range k).map (pageLn L)).flatMap Ln.cells ++ (pageLn L k).cells) (ho : w5.ownsRow 0 62 3 v' m xs) (hk : Keeps (fun i => v.ownBlock = some i) W w5)
    (hf : v'.ownBlock = v.ownBlock ∨ ∃ g, v'.ownBlock = some g ∧ W.heap.size ≤ g) : InL wr (w5.setCell ⟨B, 4, none⟩ v') B g L (k + 1) v' := by
  have hbl := lt_of_block h.blk
  have hlo := h.lo
  have n1 : ∀ i, v'.ownBlock = some i → B < i := fun i e => by
    rcases hf with e' | ⟨i', e', h'⟩
    · exact h.nw i (by rw [← e']; exact e)
    · rw [e'] at e; simp only [Option.some.injEq] at e; omega
  have hb5 : w5.heap[B]? = some (.cells #[.int .i64 2, .int .i64 1, .int .i64 2, .int .i64 0, v, .int .i64 0, .int .i64 0, .int .i64 0, .bool g] 44 (0, 0)) := box_old h.blk hk (fun e => by have := h.nw _ e; omega)
  subst hm hx
  refine ⟨by rw [heap_setCell_same _ _ 4 _ _ v' hb5]; rfl, ?_, (h.kp.trans (hk.mono fun i _ e => by right; have := h.nw i e; omega)).trans (Keeps.setCell _ _ _ (.inr hlo)), n1, hlo⟩
  have := (Keeps.setCell (S := fun i => i = B) w5 ⟨B, 4, none⟩ v' rfl).row ho (fun i e e' => by have := n1 i e; omega)
  rw [List.range_succ, List.map_append, List.flatMap_append]
  simpa using this
end Go.Proofs.Ythokcmbgamanbaa
