/- Small laws of the walk, more: an append at a step of a drawn region; parts of a slice that reads as a list. -/
import Derived.Test.YthokcmbgamanbaaDoorKit2
import Derived.Deep.RegionLaw
import Derived.Deep.RegionHeld3
namespace Go.Proofs.YthokcmbgamanbaaDoor
open Go.RowKit
theorem step_append_row {P : Program} {ops : Array Oper} {o : Oper} {a : Act} {w : World} {K : Act → World → Prop} {Q : Exit → Act → World → Prop} {E : Prop} (hgd : o.guard = none) (s x : Operand) (t : TypeId)
    (ho : o.op = .call { callee := .builtin .append, args := #[s, x], argTypes := #[t, t] })
    (base : Nat) (e : TypeId) (i : TypeInfo) (z : Value) (size bytes : Nat) (ht : P.underlying t = some (.slice e)) (hi : P.info? e = some i) (hz : i.zero = some z)
    (hsize : i.size = size) (hby : i.bytes = bytes) (hzs : z.cells.size = size) (hsz : 0 < size)
    (v : Value) (n : Nat) (xs : List Value) (hs : a.eval s = v) (hown : w.ownsRow base e size v n xs)
    (xv : Value) (m : Nat) (news : List Value) (hx : a.eval x = xv) (hxr : Reads w size xv m news) (h1 : ∀ u ∈ news, u.oneCell' = true)
    (h63 : n + m ≤ maxLen) (hbytes : (n + m) * bytes ≤ 140737488355328) (hbase : base ≤ w.heap.size)
    (h : ∀ v' w', w'.ownsRow base e size v' (n + m) (xs ++ news) → Keeps (fun k => v.ownBlock = some k) w w' → (v'.ownBlock = v.ownBlock ∨ ∃ g, v'.ownBlock = some g ∧ w.heap.size ≤ g) → K (a.put o.dst v') w') :
    if Region.wanted o (yielded ops a.tmps) = true then Oper.wp P o a w K Q else E := by
  have hw : Region.wanted o (yielded ops a.tmps) = true := by simp [Region.wanted, hgd]
  rw [if_pos hw]
  obtain ⟨v', w', hr, h2, h3, h4, _⟩ := run_append_row (P := P) w base t o.type e i z size bytes ht hi hz hsize hby hzs hsz v n xs hown xv m news hxr h1 h63 hbytes hbase
  unfold Oper.wp execOp
  simp only [ho, resolve, invoke, builtin, Sem.run_bind, Sem.run_pure, Result.andThen_ok, List.map_toArray, List.map_cons, List.map_nil, hs, hx, hr]
  exact h v' w' h2 h3 h4
theorem Reads.pre {w : World} {size n c : Nat} {ad : Option Addr} {xs : List Value} (h : Reads w size (.slice ad n c) n xs) (k : Nat) (hk : k ≤ n) : Reads w size (.slice ad k c) k (xs.take (k * size)) := by
  obtain ⟨ad', c', he, h1, h2, h3, h4⟩ := h
  simp only [Value.slice.injEq, true_and] at he
  obtain ⟨rfl, rfl⟩ := he
  have hm : k * size ≤ n * size := Nat.mul_le_mul_right _ hk
  refine ⟨ad, c, rfl, by omega, by rw [List.length_take, h2]; omega, h3, fun j u hj => h4 j u ?_⟩
  rw [List.getElem?_take] at hj
  split at hj
  · exact hj
  · simp at hj
theorem Reads.suf {w : World} {size n c g o : Nat} {xs : List Value} (h : Reads w size (.slice (some ⟨g, o, none⟩) n c) n xs) (k : Nat) (hk : k ≤ n) : Reads w size (.slice (some ⟨g, o + k * size, none⟩) (n - k) (c - k)) (n - k) (xs.drop (k * size)) := by
  obtain ⟨ad', c', he, h1, h2, h3, h4⟩ := h
  simp only [Value.slice.injEq, true_and] at he
  obtain ⟨rfl, rfl⟩ := he
  refine ⟨_, _, rfl, by omega, by rw [List.length_drop, h2, Nat.sub_mul], by simp, fun j u hj => ?_⟩
  rw [List.getElem?_drop] at hj
  obtain ⟨g', o', he, hc⟩ := h4 _ u hj
  simp only [Option.some.injEq, Addr.mk.injEq, and_true] at he
  obtain ⟨rfl, rfl⟩ := he
  exact ⟨g, o + k * size, rfl, by rw [Nat.add_assoc]; exact hc⟩
theorem Reads.none_of {w : World} {size : Nat} {ad : Option Addr} {c : Nat} (h : ad = none → c = 0) : Reads w size (.slice ad 0 c) 0 [] := ⟨ad, c, rfl, Nat.zero_le _, by simp, h, fun j u hj => by simp at hj⟩
theorem Reads.drew {w : World} {size : Nat} {x : Value} {m : Nat} {news : List Value} (h : Reads w size x m news) : Reads w.drew size x m news := h.keeps (Keeps.drew (S := fun _ => False) _) (by simp)
theorem Reads.alloc {w : World} {size : Nat} {x : Value} {m : Nat} {news : List Value} (h : Reads w size x m news) (o : Obj) : Reads (w.alloc o) size x m news := h.keeps (Keeps.alloc (S := fun _ => False) _ _) (by simp)
/-- A block that is known whole, read as a slice of it. -/
theorem Reads.blk {w : World} {g : Nat} {cs : Array Value} {e : TypeId} {fz : Nat × Nat} {size n : Nat} (hb : w.heap[g]? = some (.cells cs e fz)) (hs : cs.size = n * size) : Reads w size (.slice (some ⟨g, 0, none⟩) n n) n cs.toList :=
  ⟨some ⟨g, 0, none⟩, n, rfl, Nat.le_refl _, by simpa using hs, by simp, fun j u hj => ⟨g, 0, rfl, by
    rw [cell_of_cells hb, Nat.zero_add]
    simpa using hj⟩⟩
/-- An element of a list that is read at a place: the fact, and where it lies. -/
theorem get_some {α : Type} {L : List α} {k : Nat} (h : k < L.length) : ∃ x, L[k]? = some x := ⟨L[k], List.getElem?_eq_getElem h⟩
theorem take_snoc' {α : Type} {L : List α} {k : Nat} {x : α} (h : L[k]? = some x) : L.take (k + 1) = L.take k ++ [x] := by rw [List.take_add_one, h]; rfl
/-- What a call has made so far: nothing that was there has changed, and the row lies in a block of the call's own. -/
def Fresh (w0 w : World) (v : Value) : Prop := Keeps (fun _ => False) w0 w ∧ ∀ g, v.ownBlock = some g → w0.heap.size ≤ g
theorem Fresh.nil (w : World) : Fresh w w (.slice none 0 0) := ⟨Keeps.refl _ _, by simp [Value.ownBlock]⟩
theorem Fresh.keep {w0 w w' : World} {v : Value} (h : Fresh w0 w v) (hk : Keeps (fun _ => False) w w') : Fresh w0 w' v := ⟨h.1.trans (hk.mono (by simp)), h.2⟩
theorem Fresh.app {w0 w w' : World} {v v' : Value} (h : Fresh w0 w v) (hk : Keeps (fun k => v.ownBlock = some k) w w') (hf : v'.ownBlock = v.ownBlock ∨ ∃ g, v'.ownBlock = some g ∧ w.heap.size ≤ g) : Fresh w0 w' v' := by
  have hs := h.1.size
  refine ⟨h.1.trans (hk.mono fun k _ hk' => .inr (h.2 k hk')), fun g hg => ?_⟩
  rcases hf with hf | ⟨g', hg', hh⟩
  · exact h.2 g (by rw [← hf]; exact hg)
  · rw [hg'] at hg; simp only [Option.some.injEq] at hg; omega
theorem Fresh.set {w0 w : World} {v : Value} {g j : Nat} (h : Fresh w0 w v) (hg : v.ownBlock = some g) (u : Value) : Fresh w0 (w.setCell ⟨g, j, none⟩ u) v :=
  ⟨h.1.trans (Keeps.setCell _ _ _ (.inr (h.2 g hg))), h.2⟩
theorem Fresh.cell {w0 w : World} {v : Value} (h : Fresh w0 w v) {p : Addr} (hp : p.block < w0.heap.size) : w.cell? p = w0.cell? p := h.1.cell hp (by simp)
end Go.Proofs.YthokcmbgamanbaaDoor
