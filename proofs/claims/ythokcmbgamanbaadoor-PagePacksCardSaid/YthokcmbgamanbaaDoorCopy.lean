/- Laws that the kit lacks: copy and append-of-zeros at elements of several cells; what slices.Insert makes of a row. -/
import Derived.Test.YthokcmbgamanbaaDoorKit2
import Derived.Lib.Overlaps
import Derived.Lib.AppendZeros
import Derived.Laws.Externs
import Derived.Deep.RegionLaw
import Derived.Maps.RangeWalk
import Derived.Laws.Externs
namespace Go.Proofs.YthokcmbgamanbaaDoor
open Go.RowKit
/-- copy into a row, elements of 'size' cells each. -/
theorem run_copy_rowk {P : Program} (w : World) (dT sT ty elem : TypeId) (size g o dLen dCap : Nat) (a : Addr) (sLen sCap : Nat) (cur : Array Value) (t : TypeId) (cs : List Value)
    (hu : P.underlying dT = some (.slice elem)) (hs : (P.info? elem).map (·.size) = some size)
    (hg : w.heap[g]? = some (.cells cur t (0, 0))) (hn : cs.length = Nat.min sLen dLen * size)
    (hsrc : ∀ j v, cs[j]? = some v → w.cell? (a.add j) = some v) (hfit : o + cs.length ≤ cur.size) (h1 : ∀ v ∈ cs, v.oneCell' = true) :
    (Builtin.copy_ #[dT, sT] ty #[.slice (some ⟨g, o, none⟩) dLen dCap, .slice (some a) sLen sCap]).run P w =
      .ok (goInt (Nat.min sLen dLen)) (w.setRow g (cur.toList.take o ++ cs ++ cur.toList.drop (o + cs.length)).toArray) := by
  have hl := run_loadCells_list (P := P) w a cs hsrc
  have hst := run_storeCells_at P g o t cs 0 cur w hg (by simpa using hfit) h1
  cases hq : P.info? elem with
  | none => simp [hq] at hs
  | some i =>
    have hi : i.size = size := by simpa [hq] using hs
    simp [Builtin.copy_, run_underlying hu, Builtin.lenOf, Builtin.firstCells, sizeOf, typeInfo, hq, hi, ← hn, hl, hst]
/-- append(row, make([]T, k)...) where it must grow. -/
theorem run_append_grow_zeros {P : Program} (w : World) (t tn ty e : TypeId) (i : TypeInfo) (z : Value) (kn : IntKind) (ht : P.underlying t = some (.slice e)) (htn : P.underlying tn = some (.int kn)) (hi : P.info? e = some i) (hz : i.zero = some z)
    (b : Addr) (sLen sCap : Nat) (olds : List Value) (hlo : olds.length = sLen * i.size) (holds : ∀ j v, olds[j]? = some v → w.cell? (b.add j) = some v)
    (n : Nat) (h0 : 0 < n) (hs : 0 < i.size) (hg : sCap < sLen + n) (h63 : ((sLen + n : Nat) : Int) ≤ 9223372036854775807) (h48 : n * i.bytes ≤ 281474976710656) (hfit : Builtin.nextslicecap (sLen + n) sCap * i.bytes ≤ 281474976710656) :
    (Builtin.append_ #[t, tn] ty #[.slice (some b) sLen sCap, .int kn n]).run P w =
      .ok (.slice (some ⟨w.heap.size, 0, none⟩) (sLen + n) (grownCap w (sLen + n) sCap e))
        (w.drew.alloc (.cells (olds.toArray ++ Builtin.zeroCells z.cells n ++ Builtin.zeroCells z.cells (grownCap w (sLen + n) sCap e - (sLen + n))) e)) := by
  have hn : n ≠ 0 := by omega
  have hn' : ¬ (sLen + n ≤ sCap) := by omega
  have hw : IntKind.i64.wrap (n : Int) = n := by rw [IntKind.wrap_i64]; omega
  have h63' : ¬ (9223372036854775807 < ((sLen : Int) + (n : Int))) := by omega
  have h48' : ¬ (281474976710656 < Builtin.nextslicecap (sLen + n) sCap * i.bytes) := by omega
  have h48i : ¬ (281474976710656 < (n : Int) * (i.bytes : Int)) := by
    rw [← Int.natCast_mul]
    omega
  have hneg : ¬ ((n : Int) < 0) := by omega
  have hns : ¬ (n * i.size = 0) := Nat.mul_ne_zero hn (by omega)
  have hfo := run_firstCells_some (P := P) w.drew i.size sLen b sLen sCap olds hlo (by simpa using holds)
  simp [Builtin.append_, run_underlying ht, run_underlying htn, sizeOf, typeInfo, zeroValue, hi, hz, asInt, asIntOf, hw, hn', hneg, hns, h63', h48', h48i, Question.forced, hfo, newRow, grownCap]
theorem ins_room {X1 X2 Z N : List Value} {a b s : Nat} (h1 : X1.length = a) (h2 : X2.length = b) (hN : N.length = s) (hz : s ≤ Z.length) (cur c1 : List Value) (hcur : cur = X1 ++ (X2 ++ Z)) (hc1 : c1 = cur.take (a + s) ++ X2 ++ cur.drop (a + s + X2.length)) :
    (c1.take a ++ N ++ c1.drop (a + N.length)).take (a + s + b) = X1 ++ N ++ X2 := by
  have e1 : cur.take (a + s) = X1 ++ (X2 ++ Z).take s := by rw [hcur, List.take_append, h1]; simp [List.take_of_length_le (show X1.length ≤ a + s by omega)]
  have l1 : ((X2 ++ Z).take s).length = s := by simp; omega
  have e2 : c1.take a = X1 := by
    rw [hc1, e1, List.append_assoc, List.append_assoc, List.take_append, h1]; simp [List.take_of_length_le (show X1.length ≤ a by omega)]
  have e3 : c1.drop (a + s) = X2 ++ cur.drop (a + s + X2.length) := by
    rw [hc1, e1, List.append_assoc, List.drop_append]
    simp only [List.length_append, h1, l1]
    rw [List.drop_eq_nil_of_le (by simp [h1, l1])]
    simp
  rw [hN, e2, e3, List.append_assoc, List.append_assoc, ← List.append_assoc X1, List.take_append]
  rw [List.take_of_length_le (by simp; omega)]
  simp only [List.length_append, h1, hN]
  rw [show a + s + b - (a + s) = b by omega, List.take_append, h2]
  simp [List.take_of_length_le (show X2.length ≤ b by omega)]
theorem ins_grow {X1 X2 Z N : List Value} {a b s : Nat} (h1 : X1.length = a) (h2 : X2.length = b) (hN : N.length = s) (_ : s + b ≤ Z.length) (cur c1 : List Value) (hcur : cur = X1 ++ Z) (hc1 : c1 = cur.take a ++ N ++ cur.drop (a + N.length)) :
    (c1.take (a + s) ++ X2 ++ c1.drop (a + s + X2.length)).take (a + s + b) = X1 ++ N ++ X2 := by
  have e1 : cur.take a = X1 := by rw [hcur, List.take_append, h1]; simp [List.take_of_length_le (show X1.length ≤ a by omega)]
  have e2 : c1.take (a + s) = X1 ++ N := by
    rw [hc1, e1, List.take_append]
    simp only [List.length_append, h1, hN]
    rw [List.take_of_length_le (by simp; omega)]
    simp
  rw [e2, List.take_append]
  simp only [List.length_append, h1, hN, h2]
  rw [List.take_of_length_le (by simp; omega), show a + s + b - (a + s + b) = 0 by omega]
  simp
/-- The row behind a copy. -/
def laid (cur : List Value) (o : Nat) (cs : List Value) : List Value := cur.take o ++ cs ++ cur.drop (o + cs.length)
theorem length_laid (cur : List Value) (o : Nat) (cs : List Value) (h : o + cs.length ≤ cur.length) : (laid cur o cs).length = cur.length := by simp [laid]; omega
theorem wpList_copy_rowk {P : Program} {w : World} {ops : Array Oper} {rest : List Oper} {o : Oper} {a : Act} {Q : Exit → Act → World → Prop} (hgd : o.guard = none) (d s : Operand) (dT sT : TypeId)
    (ho : o.op = .call { callee := .builtin .copy, args := #[d, s], argTypes := #[dT, sT] }) (elem : TypeId) (size : Nat) (hu : P.underlying dT = some (.slice elem)) (hsz : (P.info? elem).map (·.size) = some size)
    (g off dLen dCap : Nat) (ad : Addr) (sLen sCap : Nat) (hd : a.eval d = .slice (some ⟨g, off, none⟩) dLen dCap) (hs : a.eval s = .slice (some ad) sLen sCap)
    (cur : List Value) (t : TypeId) (hg : w.heap[g]? = some (.cells cur.toArray t (0, 0))) (cs : List Value) (m : Nat) (hm : Nat.min sLen dLen = m) (hn : cs.length = m * size)
    (hsrc : ∀ j v, cs[j]? = some v → w.cell? (ad.add j) = some v) (hfit : off + cs.length ≤ cur.length) (h1 : ∀ v ∈ cs, v.oneCell' = true)
    (h : ∀ w', w'.heap[g]? = some (.cells (laid cur off cs).toArray t (0, 0)) → Keeps (fun k => k = g) w w' → wpList P ops Q rest (a.put o.dst (.int .i64 (m : Int))) w') : wpList P ops Q (o :: rest) a w := by
  subst hm
  refine wpList_plain hgd fun K hK => ?_
  have hrun := run_copy_rowk (P := P) w dT sT o.type elem size g off dLen dCap ad sLen sCap cur.toArray t cs hu hsz hg hn hsrc (by simpa using hfit) h1
  unfold Oper.wp execOp
  simp only [ho, resolve, invoke, builtin, Sem.run_bind, Sem.run_pure, Result.andThen_ok, List.map_toArray, List.map_cons, List.map_nil, hd, hs, hrun]
  exact hK _ _ (h _ (setRow_heap w g _ _ t _ hg) ⟨rfl, rfl, rfl, by simp, fun k _ hk => setRow_other w g k _ hk⟩)
theorem step_copy_rowk {P : Program} {ops : Array Oper} {o : Oper} {a : Act} {w : World} {K : Act → World → Prop} {Q : Exit → Act → World → Prop} {E : Prop} (hgd : o.guard = none) (d s : Operand) (dT sT : TypeId)
    (ho : o.op = .call { callee := .builtin .copy, args := #[d, s], argTypes := #[dT, sT] }) (elem : TypeId) (size : Nat) (hu : P.underlying dT = some (.slice elem)) (hsz : (P.info? elem).map (·.size) = some size)
    (g off dLen dCap : Nat) (ad : Addr) (sLen sCap : Nat) (hd : a.eval d = .slice (some ⟨g, off, none⟩) dLen dCap) (hs : a.eval s = .slice (some ad) sLen sCap)
    (cur : List Value) (t : TypeId) (hg : w.heap[g]? = some (.cells cur.toArray t (0, 0))) (cs : List Value) (m : Nat) (hm : Nat.min sLen dLen = m) (hn : cs.length = m * size)
    (hsrc : ∀ j v, cs[j]? = some v → w.cell? (ad.add j) = some v) (hfit : off + cs.length ≤ cur.length) (h1 : ∀ v ∈ cs, v.oneCell' = true)
    (h : ∀ w', w'.heap[g]? = some (.cells (laid cur off cs).toArray t (0, 0)) → Keeps (fun k => k = g) w w' → K (a.put o.dst (.int .i64 (m : Int))) w') :
    if Region.wanted o (yielded ops a.tmps) = true then Oper.wp P o a w K Q else E := by
  have hw : Region.wanted o (yielded ops a.tmps) = true := by simp [Region.wanted, hgd]
  rw [if_pos hw]
  subst hm
  have hrun := run_copy_rowk (P := P) w dT sT o.type elem size g off dLen dCap ad sLen sCap cur.toArray t cs hu hsz hg hn hsrc (by simpa using hfit) h1
  unfold Oper.wp execOp
  simp only [ho, resolve, invoke, builtin, Sem.run_bind, Sem.run_pure, Result.andThen_ok, List.map_toArray, List.map_cons, List.map_nil, hd, hs, hrun]
  exact h _ (setRow_heap w g _ _ t _ hg) ⟨rfl, rfl, rfl, by simp, fun k _ hk => setRow_other w g k _ hk⟩
/-- A row that an append or an insertion made, seen from ahead of the box that held what was put in. -/
theorem ins_post {w w1 : World} {o : Obj} {e : TypeId} {size : Nat} {v v' : Value} {n : Nat} {zs : List Value} (h1 : w1.ownsRow 0 e size v' n zs) (h2 : Keeps (fun k => v.ownBlock = some k) (w.alloc o) w1) (h3 : v'.ownBlock = v.ownBlock ∨ ∃ g, v'.ownBlock = some g ∧ w.heap.size + 1 ≤ g) :
    w1.ownsRow 0 e size v' n zs ∧ Keeps (fun k => v.ownBlock = some k) w w1 ∧ (v'.ownBlock = v.ownBlock ∨ ∃ g, v'.ownBlock = some g ∧ w.heap.size ≤ g) :=
  ⟨h1, (Keeps.alloc w o).trans (h2.mono fun _ _ h => .inl h), h3.imp id fun ⟨g, hg, hh⟩ => ⟨g, hg, by omega⟩⟩
theorem wpList_append_growz {P : Program} {w : World} {ops : Array Oper} {rest : List Oper} {o : Oper} {a : Act} {Q : Exit → Act → World → Prop} (hgd : o.guard = none) (s x : Operand) (t tn : TypeId)
    (ho : o.op = .call { callee := .builtin .append, args := #[s, x], argTypes := #[t, tn] }) (e : TypeId) (i : TypeInfo) (z : Value) (size bytes : Nat) (kn : IntKind) (ht : P.underlying t = some (.slice e)) (htn : P.underlying tn = some (.int kn)) (hi : P.info? e = some i) (hz : i.zero = some z)
    (hsize : i.size = size) (hby : i.bytes = bytes) (hzs : z.cells.size = size) (hs0 : 0 < size)
    (b : Addr) (sLen sCap : Nat) (olds : List Value) (n : Nat) (hs : a.eval s = .slice (some b) sLen sCap) (hx : a.eval x = .int kn n) (hlo : olds.length = sLen * size) (holds : ∀ j v, olds[j]? = some v → w.cell? (b.add j) = some v)
    (h0 : 0 < n) (hg : sCap < sLen + n) (h63 : sLen + n ≤ 1000000000002) (hbb : bytes ≤ 100)
    (h : ∀ G Z w', sLen + n ≤ G → G ≤ maxLen → Z.length = (G - sLen) * size → w'.heap[w.heap.size]? = some (.cells (olds ++ Z).toArray e (0, 0)) → Keeps (fun _ => False) w w' → wpList P ops Q rest (a.put o.dst (.slice (some ⟨w.heap.size, 0, none⟩) (sLen + n) G)) w') :
    wpList P ops Q (o :: rest) a w := by
  subst hsize
  subst hby
  have hb1 : (sLen + n) * i.bytes ≤ 140737488355328 := Nat.le_trans (Nat.mul_le_mul h63 hbb) (by omega)
  have hb2 : n * i.bytes ≤ 281474976710656 := Nat.le_trans (Nat.mul_le_mul_right _ (Nat.le_add_left n sLen)) (by omega)
  have hr := run_append_grow_zeros (P := P) w t tn o.type e i z kn ht htn hi hz b sLen sCap olds hlo holds n h0 hs0 hg (by omega) hb2 (growslice_fits hg hb1)
  refine Lib.wpList_append_run w hgd s x t tn ho _ _ hs hx _ _ hr ?_
  have hge := grownCap_ge w (sLen + n) sCap e
  have hcm := grownCap_le_maxLen w (sLen + n) sCap e (by unfold maxLen; omega)
  refine h _ ((Builtin.zeroCells z.cells n ++ Builtin.zeroCells z.cells (grownCap w (sLen + n) sCap e - (sLen + n))).toList) _ hge hcm ?_ ?_ ((Keeps.drew w).trans (Keeps.alloc _ _))
  · simp only [Array.toList_append, List.length_append, Array.length_toList, size_zeroCells, hzs, ← Nat.add_mul]
    congr 1
    omega
  · have := heap_alloc_new w.drew (.cells (olds.toArray ++ Builtin.zeroCells z.cells n ++ Builtin.zeroCells z.cells (grownCap w (sLen + n) sCap e - (sLen + n))) e)
    rw [show w.drew.heap.size = w.heap.size from rfl] at this
    rw [this]
    congr 2
    apply Array.ext'
    simp
end Go.Proofs.YthokcmbgamanbaaDoor
