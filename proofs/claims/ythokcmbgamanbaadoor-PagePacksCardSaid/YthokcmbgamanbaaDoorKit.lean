/- Small laws of the walk that the kit lacks: a scope that is left by jumps ahead; an append that tells whether its row is new; what a call keeps. -/
import Derived.Test.YthokcmbgamanbaaDoorRows
import Derived.WalkKit
import Derived.WalkSpells
import Derived.WalkLawsBesides
import Derived.Lib.Hide
import Derived.Deep.QuietTactic
import Derived.BigQuiet
import Derived.StillTailTactics
namespace Go.Proofs.YthokcmbgamanbaaDoor
open Go.RowKit

/-- A scope whose jumps all lead ahead, to one label: what stands behind the label is walked at each jump. -/
theorem wp_scope_ahead {P : Program} {a : Act} {w : World} {Q : Exit → Act → World → Prop} {c rest : Code} (l : Nat) (hf : findLabel c l = some rest)
    (h : c.wp P (Exit.jump l (fun a' w' => rest.wp P (Exit.noGoto Q) a' w') Q) a w) : (Code.scope c).wp P Q a w := by
  refine wp_scope_jumps l (fun a' w' => rest.wp P (Exit.noGoto Q) a' w') (fun _ _ => 0) hf h ?_
  intro a w hJ
  refine Code.wp_mono ?_ hJ
  intro e a w hq
  cases e <;> first | exact hq | exact hq.elim

theorem jump_goto {l : Nat} {J : Act → World → Prop} {Q : Exit → Act → World → Prop} {a : Act} {w : World} (h : J a w) : Exit.jump l J Q (.goto l) a w := ⟨rfl, h⟩
theorem jump_ret {l : Nat} {J : Act → World → Prop} {Q : Exit → Act → World → Prop} {a : Act} {w : World} (h : Q .ret a w) : Exit.jump l J Q .ret a w := h
theorem noGoto_ret {Q : Exit → Act → World → Prop} {a : Act} {w : World} (h : Q .ret a w) : Exit.noGoto Q .ret a w := h

/-- What a call keeps: every block that was there, but those of S. -/
structure Keeps (S : Nat → Prop) (w w' : World) : Prop where
  os : w'.os = w.os
  tape : w'.tape = w.tape
  output : w'.output = w.output
  size : w.heap.size ≤ w'.heap.size
  block : ∀ k, k < w.heap.size → ¬ S k → w'.heap[k]? = w.heap[k]?

theorem Keeps.refl (S : Nat → Prop) (w : World) : Keeps S w w := ⟨rfl, rfl, rfl, Nat.le_refl _, fun _ _ _ => rfl⟩
theorem Keeps.mono {S T : Nat → Prop} {w w' : World} (h : Keeps S w w') (hST : ∀ k, k < w.heap.size → S k → T k) : Keeps T w w' :=
  ⟨h.os, h.tape, h.output, h.size, fun k hk hn => h.block k hk fun hs => hn (hST k hk hs)⟩
theorem Keeps.trans {S : Nat → Prop} {a b c : World} (h : Keeps S a b) (k : Keeps (fun i => S i ∨ a.heap.size ≤ i) b c) : Keeps S a c :=
  ⟨k.os.trans h.os, k.tape.trans h.tape, k.output.trans h.output, Nat.le_trans h.size k.size,
    fun i hi hn => (k.block i (Nat.lt_of_lt_of_le hi h.size) (fun hh => hh.elim hn (fun hh => by omega))).trans (h.block i hi hn)⟩
theorem Keeps.of_below {B : Nat} {w w' : World} (h : Below B w w') : Keeps (fun k => B ≤ k) w w' := ⟨h.os, h.tape, h.output, h.size, fun k _ hn => h.block k (by omega)⟩
theorem Keeps.below {S : Nat → Prop} {B : Nat} {w w' : World} (h : Keeps S w w') (hS : ∀ k, k < B → ¬ S k) (hB : B ≤ w.heap.size) : Below B w w' :=
  ⟨h.os, h.tape, h.output, h.size, fun k hk => h.block k (by omega) (hS k hk)⟩
theorem Keeps.grown {w w' : World} {row : Option Nat} (h : w.grownBy w' row) : Keeps (fun k => row = some k) w w' := ⟨h.os, h.tape, h.output, h.size, fun k hk hn => h.block k hk fun e => hn e.symm⟩
theorem Keeps.grownBy {w w' : World} {row : Option Nat} (h : Keeps (fun k => row = some k) w w') : w.grownBy w' row := ⟨h.os, h.tape, h.output, h.size, fun k hk hn => h.block k hk fun e => hn e.symm⟩
theorem Keeps.drewN {S : Nat → Prop} (w : World) (n : Nat) : Keeps S w (w.drewN n) := ⟨rfl, rfl, rfl, Nat.le_refl _, fun _ _ _ => rfl⟩
theorem Keeps.drew {S : Nat → Prop} (w : World) : Keeps S w w.drew := ⟨rfl, rfl, rfl, Nat.le_refl _, fun _ _ _ => rfl⟩
theorem Keeps.alloc {S : Nat → Prop} (w : World) (o : Obj) : Keeps S w (w.alloc o) := ⟨rfl, rfl, rfl, by simp, fun k hk _ => Below.heap_alloc _ _ _ hk⟩
theorem Keeps.setCell {S : Nat → Prop} (w : World) (a : Addr) (u : Value) (h : S a.block) : Keeps S w (w.setCell a u) :=
  ⟨rfl, rfl, rfl, by simp [World.setCell], fun k _ hn => Below.heap_setCell _ _ _ _ (fun e => hn (e ▸ h))⟩
theorem Keeps.cell {S : Nat → Prop} {w w' : World} (h : Keeps S w w') {p : Addr} (hp : p.block < w.heap.size) (hn : ¬ S p.block) : w'.cell? p = w.cell? p := World.cell?_of_block (w := w) (h.block p.block hp hn)
theorem Keeps.frozen {S : Nat → Prop} {w w' : World} (h : Keeps S w w') {p : Addr} (hp : p.block < w.heap.size) (hn : ¬ S p.block) : w'.frozen? p = w.frozen? p := World.frozen?_of_block (w := w) (h.block p.block hp hn)
theorem Keeps.row {S : Nat → Prop} {w w' : World} (h : Keeps S w w') {base : Nat} {e : TypeId} {size : Nat} {v : Value} {n : Nat} {xs : List Value} (hown : w.ownsRow base e size v n xs) (hn : ∀ k, v.ownBlock = some k → ¬ S k) :
    w'.ownsRow base e size v n xs := by
  obtain ⟨h1, h2⟩ := hown
  refine ⟨h1, ?_⟩
  rcases h2 with h2 | ⟨g, cap, cur, hv, hg, hh, r⟩
  · exact .inl h2
  · exact .inr ⟨g, cap, cur, hv, hg, by rw [h.block g (lt_of_block hh) (hn g (by rw [hv]; rfl))]; exact hh, r⟩

theorem add_block (a : Addr) (n : Nat) : (a.add n).block = a.block := by unfold Addr.add; split <;> rfl
theorem cell_lt {w : World} {a : Addr} {u : Value} (ha : w.cell? a = some u) : a.block < w.heap.size := by
  unfold World.cell? at ha
  rcases hb : w.heap[a.block]? with _ | o
  · rw [hb] at ha; simp at ha
  · exact lt_of_block hb

theorem add_mk (g o j : Nat) : (⟨g, o, none⟩ : Addr).add j = ⟨g, o + j, none⟩ := by unfold Addr.add; split <;> simp_all
/-- A slice value that reads as a list of cells, whatever array it lies in. -/
def Reads (w : World) (size : Nat) (x : Value) (m : Nat) (news : List Value) : Prop :=
  ∃ ad c, x = .slice ad m c ∧ m ≤ c ∧ news.length = m * size ∧ (ad = none → c = 0) ∧ ∀ j u, news[j]? = some u → ∃ g o, ad = some ⟨g, o, none⟩ ∧ w.cell? ⟨g, o + j, none⟩ = some u

theorem Reads.of_owns {w : World} {base : Nat} {e : TypeId} {size : Nat} {v : Value} {n : Nat} {xs : List Value} (h : w.ownsRow base e size v n xs) : Reads w size v n xs := by
  have hc := fun g (hg : v.ownBlock = some g) => h.cells hg
  obtain ⟨h1, ⟨rfl, rfl⟩ | ⟨g, cap, cur, rfl, _, _, hn, _⟩⟩ := h
  · exact ⟨none, 0, rfl, Nat.le_refl _, h1, fun _ => rfl, fun j u hj => by have : xs = [] := List.eq_nil_of_length_eq_zero (by simpa using h1); subst this; simp at hj⟩
  · exact ⟨some ⟨g, 0, none⟩, cap, rfl, hn, h1, by simp, fun j u hj => ⟨g, 0, rfl, by rw [← add_mk]; exact hc g rfl j u hj⟩⟩
theorem Reads.nil (w : World) (size : Nat) : Reads w size (.slice none 0 0) 0 [] := ⟨none, 0, rfl, Nat.le_refl _, by simp, fun _ => rfl, fun j u hj => by simp at hj⟩
theorem Reads.keeps {S : Nat → Prop} {w w' : World} {size : Nat} {x : Value} {m : Nat} {news : List Value} (h : Reads w size x m news) (hk : Keeps S w w')
    (hS : ∀ k, x.ownBlock = some k → ¬ S k) : Reads w' size x m news := by
  obtain ⟨ad, c, rfl, h1, h2, h3, h4⟩ := h
  refine ⟨ad, c, rfl, h1, h2, h3, fun j u hj => ?_⟩
  obtain ⟨g, o, rfl, ha⟩ := h4 j u hj
  exact ⟨g, o, rfl, by rw [hk.cell (cell_lt ha) (hS g rfl)]; exact ha⟩

/-- append(own, src...): the slice that came of it is in the same row, or in a new one. -/
theorem run_append_row {P : Program} (w : World) (base : Nat) (t ty e : TypeId) (i : TypeInfo) (z : Value) (size bytes : Nat) (ht : P.underlying t = some (.slice e)) (hi : P.info? e = some i) (hz : i.zero = some z)
    (hsize : i.size = size) (hby : i.bytes = bytes) (hzs : z.cells.size = size) (hsz : 0 < size)
    (v : Value) (n : Nat) (xs : List Value) (hown : w.ownsRow base e size v n xs)
    (x : Value) (m : Nat) (news : List Value) (hx : Reads w size x m news) (h1 : ∀ u ∈ news, u.oneCell' = true)
    (h63 : n + m ≤ maxLen) (hbytes : (n + m) * bytes ≤ 140737488355328) (hbase : base ≤ w.heap.size) :
    ∃ v' w', (Builtin.append_ #[t, t] ty #[v, x]).run P w = .ok v' w' ∧ w'.ownsRow base e size v' (n + m) (xs ++ news) ∧ Keeps (fun k => v.ownBlock = some k) w w' ∧
      (v'.ownBlock = v.ownBlock ∨ ∃ g, v'.ownBlock = some g ∧ w.heap.size ≤ g) ∧ (v' = .slice none 0 0 ↔ v = .slice none 0 0 ∧ m = 0) := by
  obtain ⟨ad, c, rfl, hmc, hl, hnone, hnews⟩ := hx
  rcases ad with _ | a
  · have hc0 := hnone rfl
    subst hc0
    obtain rfl : m = 0 := by omega
    obtain rfl : news = [] := List.eq_nil_of_length_eq_zero (by simpa using hl)
    have hr := run_append_owned_none (P := P) w base t ty e i size ht hi v n xs hown
    exact ⟨v, w, hr, by simpa using hown, Keeps.refl _ _, .inl rfl, by simp⟩
  · have hnews' : ∀ j u, news[j]? = some u → w.cell? (a.add j) = some u := fun j u hj => by
      obtain ⟨g, o, ha', hh⟩ := hnews j u hj
      cases ha'
      rw [add_mk]
      exact hh
    obtain ⟨v', w', hr, hown', hgr, hnil⟩ := run_append_own (P := P) w base t ty e i z size bytes ht hi hz hsize hby hzs hsz v n xs hown a m c news hl hnews' h1 h63 hbytes hbase
    refine ⟨v', w', hr, hown', Keeps.grown hgr, ?_, hnil⟩
    subst hsize
    subst hby
    have hm63 : n + m ≤ 9223372036854775807 := by simp only [maxLen] at h63; omega
    rcases hown.2 with ⟨rfl, rfl⟩ | ⟨g, cap, cur, rfl, hbg, hg, hnc, hcm, hcs, htake⟩
    · by_cases hm : m = 0
      · left; rw [hnil.2 ⟨rfl, hm⟩]
      · have hr2 := run_append_nil (P := P) w t ty e i z ht hi hz a m c news hl hnews' (by omega) (by omega) (by have hb := hbytes; simp only [Nat.zero_add] at hb; omega)
        rw [hr2] at hr
        injection hr with hv hw
        right
        exact ⟨w.heap.size, by rw [← hv]; rfl, Nat.le_refl _⟩
    · by_cases hroom : n + m ≤ cap
      · have hfit : n * i.size + news.length ≤ cur.size := by rw [hl, hcs, ← Nat.add_mul]; exact Nat.mul_le_mul_right _ hroom
        have hr2 := run_append_room (P := P) w t ty e i ht hi g n cap cur hg a m c news hl hnews' h1 hroom hfit
        rw [hr2] at hr
        injection hr with hv hw
        left
        rw [← hv]; rfl
      · have holds : ∀ j u, xs[j]? = some u → w.cell? ((⟨g, 0, none⟩ : Addr).add j) = some u := hown.cells (g := g) rfl
        have hr2 := run_append_grow (P := P) w t ty e i z ht hi hz ⟨g, 0, none⟩ n cap xs hown.1 holds a m c news hl hnews' (by omega) (by omega) (growslice_fits (by omega) hbytes)
        rw [hr2] at hr
        injection hr with hv hw
        right
        exact ⟨w.heap.size, by rw [← hv]; rfl, Nat.le_refl _⟩

theorem wpList_append_row {P : Program} {w : World} {ops : Array Oper} {rest : List Oper} {o : Oper} {a : Act} {Q : Exit → Act → World → Prop} (hgd : o.guard = none) (s x : Operand) (t : TypeId)
    (ho : o.op = .call { callee := .builtin .append, args := #[s, x], argTypes := #[t, t] })
    (base : Nat) (e : TypeId) (i : TypeInfo) (z : Value) (size bytes : Nat) (ht : P.underlying t = some (.slice e)) (hi : P.info? e = some i) (hz : i.zero = some z)
    (hsize : i.size = size) (hby : i.bytes = bytes) (hzs : z.cells.size = size) (hsz : 0 < size)
    (v : Value) (n : Nat) (xs : List Value) (hs : a.eval s = v) (hown : w.ownsRow base e size v n xs)
    (xv : Value) (m : Nat) (news : List Value) (hx : a.eval x = xv) (hxr : Reads w size xv m news) (h1 : ∀ u ∈ news, u.oneCell' = true)
    (h63 : n + m ≤ maxLen) (hbytes : (n + m) * bytes ≤ 140737488355328) (hbase : base ≤ w.heap.size)
    (h : ∀ v' w', w'.ownsRow base e size v' (n + m) (xs ++ news) → Keeps (fun k => v.ownBlock = some k) w w' → (v'.ownBlock = v.ownBlock ∨ ∃ g, v'.ownBlock = some g ∧ w.heap.size ≤ g) → wpList P ops Q rest (a.put o.dst v') w') : wpList P ops Q (o :: rest) a w := by
  refine wpList_plain hgd fun K hK => ?_
  obtain ⟨v', w', hr, h2, h3, h4, _⟩ := run_append_row (P := P) w base t o.type e i z size bytes ht hi hz hsize hby hzs hsz v n xs hown xv m news hxr h1 h63 hbytes hbase
  unfold Oper.wp execOp
  simp only [ho, resolve, invoke, builtin, Sem.run_bind, Sem.run_pure, Result.andThen_ok, List.map_toArray, List.map_cons, List.map_nil, hs, hx, hr]
  exact hK _ _ (h v' w' h2 h3 h4)
theorem cell_of_cells {w : World} {b : Nat} {c : Array Value} {t : TypeId} {fz : Nat × Nat} (hb : w.heap[b]? = some (.cells c t fz)) (j : Nat) : w.cell? ⟨b, j, none⟩ = c[j]? := by simp [World.cell?, hb]
theorem Reads.lit (w : World) (cs : Array Value) (e : TypeId) (size n : Nat) (hs : cs.size = n * size) : Reads (w.alloc (.cells cs e)) size (.slice (some ⟨w.heap.size, 0, none⟩) n n) n cs.toList :=
  ⟨some ⟨w.heap.size, 0, none⟩, n, rfl, Nat.le_refl _, by simpa using hs, by simp, fun j u hj => ⟨w.heap.size, 0, rfl, by
    have hb : (w.alloc (.cells cs e)).heap[w.heap.size]? = some (.cells cs e (0, 0)) := heap_alloc_new w _
    rw [cell_of_cells hb, Nat.zero_add]
    simpa using hj⟩⟩
theorem ownsRow_ne {w : World} {base : Nat} {e : TypeId} {size : Nat} {v : Value} {n : Nat} {xs : List Value} (h : w.ownsRow base e size v n xs) {b : Nat} {c : Array Value} {t : TypeId} {fz : Nat × Nat}
    (hb : w.heap[b]? = some (.cells c t fz)) (hne : t ≠ e) : v.ownBlock ≠ some b := by
  intro hv
  rcases h.2 with ⟨rfl, _⟩ | ⟨g, cap, cur, rfl, _, hg, _⟩
  · simp [Value.ownBlock] at hv
  · simp only [Value.ownBlock, Option.some.injEq] at hv
    subst hv
    rw [hb] at hg
    injection hg with hg
    injection hg with _ he _
    exact hne he
theorem ownsRow_shape {w : World} {base : Nat} {e : TypeId} {size : Nat} {v : Value} {n : Nat} {xs : List Value} (h : w.ownsRow base e size v n xs) : ∃ ad cap, v = .slice ad n cap ∧ n ≤ cap ∧ (ad = none → cap = 0) := by
  rcases h.2 with ⟨h, h'⟩ | ⟨g, cap, cur, h, _, _, h', _⟩
  · exact ⟨none, 0, by rw [h, h'], by omega, fun _ => rfl⟩
  · exact ⟨_, cap, h, h', by simp⟩
theorem free_of_cells {w : World} {b : Nat} {c : Array Value} {t : TypeId} (hb : w.heap[b]? = some (.cells c t (0, 0))) (j : Nat) : w.frozen? ⟨b, j, none⟩ = false := by simp [World.frozen?, hb]
section flat
variable {α : Type} {f : α → List Value} {size : Nat} (hf : ∀ x, (f x).length = size)
include hf
theorem flat_length (L : List α) : (L.flatMap f).length = L.length * size := by
  induction L with
  | nil => simp
  | cons a l ih => simp [List.flatMap_cons, hf, ih, Nat.add_mul]; omega
theorem flat_get {L : List α} {k j : Nat} {x : α} (hx : L[k]? = some x) (hj : j < size) : (L.flatMap f)[k * size + j]? = (f x)[j]? := by
  induction L generalizing k with
  | nil => simp at hx
  | cons a l ih =>
    rw [List.flatMap_cons]
    cases k with
    | zero =>
      simp only [List.getElem?_cons_zero, Option.some.injEq] at hx
      subst hx
      rw [List.getElem?_append_left (by rw [hf]; omega)]
      simp
    | succ k =>
      have hx' : l[k]? = some x := by simpa using hx
      rw [List.getElem?_append_right (by rw [hf, Nat.succ_mul]; omega), hf, ← ih hx']
      congr 1
      rw [Nat.succ_mul]
      omega
theorem flat_set {L : List α} {k j : Nat} {x y : α} {u : Value} (hx : L[k]? = some x) (hj : j < size) (hy : (f x).set j u = f y) : (L.flatMap f).set (k * size + j) u = (L.set k y).flatMap f := by
  induction L generalizing k with
  | nil => simp at hx
  | cons a l ih =>
    rw [List.flatMap_cons]
    cases k with
    | zero =>
      simp only [List.getElem?_cons_zero, Option.some.injEq] at hx
      subst hx
      rw [List.set_append_left _ _ (by rw [hf]; omega)]
      simp [hy]
    | succ k =>
      have hx' : l[k]? = some x := by simpa using hx
      rw [List.set_append_right _ _ (by rw [hf, Nat.succ_mul]; omega), hf, List.set_cons_succ, List.flatMap_cons, ← ih hx']
      congr 2
      rw [Nat.succ_mul]
      omega
theorem owns_elem {w : World} {base : Nat} {e : TypeId} {g cap : Nat} {L : List α} (h : w.ownsRow base e size (.slice (some ⟨g, 0, none⟩) L.length cap) L.length (L.flatMap f)) {k : Nat} {x : α} (hx : L[k]? = some x) (j : Nat) (hj : j < size) :
    w.cell? ⟨g, k * size + j, none⟩ = (f x)[j]? := by
  have hk : k < L.length := by
    rcases Nat.lt_or_ge k L.length with h' | h'
    · exact h'
    · simp [List.getElem?_eq_none h'] at hx
  have : (k + 1) * size ≤ L.length * size := Nat.mul_le_mul_right _ hk
  rw [Nat.succ_mul] at this
  rw [h.cellAt _ (by omega), flat_get hf hx hj]
theorem Reads.elem {w : World} {x : Value} {n : Nat} {L : List α} (h : Reads w size x n (L.flatMap f)) {k : Nat} {a : α} (hx : L[k]? = some a) (hs : 0 < size) :
    ∃ g o c, x = .slice (some ⟨g, o, none⟩) n c ∧ ∀ j, j < size → w.cell? ⟨g, o + k * size + j, none⟩ = (f a)[j]? := by
  obtain ⟨ad, c, rfl, h1, h2, h3, h4⟩ := h
  have key : ∀ j, j < size → ∃ u, (f a)[j]? = some u := fun j hj => ⟨(f a)[j]'(by rw [hf]; exact hj), List.getElem?_eq_getElem _⟩
  obtain ⟨u0, hu0⟩ := key 0 hs
  obtain ⟨g, o, rfl, _⟩ := h4 (k * size + 0) u0 (by rw [flat_get hf hx hs]; exact hu0)
  refine ⟨g, o, c, rfl, fun j hj => ?_⟩
  obtain ⟨u, hu⟩ := key j hj
  obtain ⟨g', o', he, hc⟩ := h4 (k * size + j) u (by rw [flat_get hf hx hj]; exact hu)
  simp only [Option.some.injEq, Addr.mk.injEq, and_true] at he
  obtain ⟨rfl, rfl⟩ := he
  rw [hu, Nat.add_assoc]
  exact hc
theorem owns_store {w : World} {base : Nat} {e : TypeId} {g cap : Nat} {L : List α} (h : w.ownsRow base e size (.slice (some ⟨g, 0, none⟩) L.length cap) L.length (L.flatMap f)) {k : Nat} {x y : α} (hx : L[k]? = some x) (j : Nat) (hj : j < size)
    {u : Value} (hy : (f x).set j u = f y) : (w.setCell ⟨g, k * size + j, none⟩ u).ownsRow base e size (.slice (some ⟨g, 0, none⟩) L.length cap) L.length ((L.set k y).flatMap f) := by
  have := (h.stored (k * size + j) u).1
  rwa [flat_set hf hx hj hy] at this
end flat
theorem owns_some {w : World} {base : Nat} {e : TypeId} {size : Nat} {v : Value} {n : Nat} {xs : List Value} (h : w.ownsRow base e size v n xs) (hn : 0 < n) : ∃ g cap, v = .slice (some ⟨g, 0, none⟩) n cap ∧ g < w.heap.size := by
  rcases h.2 with ⟨_, h'⟩ | ⟨g, cap, cur, h, _, hh, _⟩
  · omega
  · exact ⟨g, cap, h, lt_of_block hh⟩
theorem setCell_twice (w : World) (a : Addr) (u v : Value) : (w.setCell a u).setCell a v = w.setCell a v := by
  unfold World.setCell
  congr 1
  apply Array.ext_getElem?
  intro i
  simp only [Array.getElem?_modify]
  split
  · rename_i h
    subst h
    rcases w.heap[a.block]? with _ | o
    · rfl
    · cases o <;> simp
      split <;> simp [Array.setIfInBounds_setIfInBounds]
  · rfl
theorem lt_of_get {α : Type} {L : List α} {k : Nat} {x : α} (hx : L[k]? = some x) : k < L.length := by
  rcases Nat.lt_or_ge k L.length with h' | h'
  · exact h'
  · simp [List.getElem?_eq_none h'] at hx
theorem Below.keeps {B : Nat} {w a b : World} {S : Nat → Prop} (h : Below B w a) (hk : Keeps S a b) (hS : ∀ k, S k → B ≤ k) (hB : B ≤ w.heap.size) : Below B w b :=
  h.trans (hk.below (fun k hk hs => by have := hS k hs; omega) (Nat.le_trans hB h.size))
end Go.Proofs.YthokcmbgamanbaaDoor
