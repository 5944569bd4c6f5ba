/- slices.IndexFunc and slices.DeleteFunc at events, with a predicate that holds one captured pointer. -/
import Derived.Test.YtelhlbplbkglkaaKit5
import Derived.Test.YtelhlbplbkglkaaTerms
import Derived.Lib.SliceRun
namespace Go.Proofs.Ytelhlbplbkglkaa
open Go.RowKit
/-- Where the first one that is meant stands. -/
def idxEv (q : Ev → Bool) (L : List Ev) : Option Nat := L.findIdx? q
theorem keeps_setCells (g : Nat) : ∀ (vs : List Value) (o : Nat) (w : World), Keeps (fun k => k = g) w (w.setCells g o vs)
  | [], _, _ => Keeps.refl _ _
  | v :: r, o, w => (Keeps.setCell (S := fun k => k = g) w ⟨g, o, none⟩ v rfl).trans ((keeps_setCells g r (o + 1) _).mono fun _ _ h => .inl h)
theorem owns_storeN {α : Type} {f : α → List Value} {size : Nat} {hf : ∀ x, (f x).length = size} {w : World} {base : Nat} {e : TypeId} {g cap n : Nat} {L : List α} (h : w.ownsRow base e size (.slice (some ⟨g, 0, none⟩) n cap) n (L.flatMap f)) (hl : L.length = n) {k : Nat} {x y : α} (hx : L[k]? = some x) (j : Nat) (hj : j < size)
    {u : Value} (hy : (f x).set j u = f y) : (w.setCell ⟨g, k * size + j, none⟩ u).ownsRow base e size (.slice (some ⟨g, 0, none⟩) n cap) n ((L.set k y).flatMap f) := by
  subst hl; exact owns_store hf h hx j hj hy
/-- A store of a whole event into a row of one's own. -/
theorem owns_storeEv {w : World} {g cap n k : Nat} {L : List Ev} (h : w.ownsRow 0 34 5 (.slice (some ⟨g, 0, none⟩) n cap) n (L.flatMap Ev.cells)) (hl : L.length = n) (hk : k < n) (a b c d e : Int) :
    (((((w.setCell ⟨g, k * 5, none⟩ (.int .i64 a)).setCell ⟨g, k * 5 + 1, none⟩ (.int .i64 b)).setCell ⟨g, k * 5 + 2, none⟩ (.int .i64 c)).setCell ⟨g, k * 5 + 3, none⟩ (.int .i64 d)).setCell ⟨g, k * 5 + 4, none⟩ (.int .i64 e)).ownsRow 0 34 5 (.slice (some ⟨g, 0, none⟩) n cap) n ((L.set k ⟨a, b, c, d, e⟩).flatMap Ev.cells) := by
  obtain ⟨⟨a0, b0, c0, d0, e0⟩, hx⟩ := get_some (L := L) (k := k) (by omega)
  have s1 := owns_storeN (hf := Ev.cells_length) h hl hx (y := ⟨a, b0, c0, d0, e0⟩) 0 (by decide) (u := .int .i64 a) rfl
  have s2 := owns_storeN (hf := Ev.cells_length) s1 (by simp [hl]) (x := ⟨a, b0, c0, d0, e0⟩) (k := k) (by simp [hl, hk]) (y := ⟨a, b, c0, d0, e0⟩) 1 (by decide) (u := .int .i64 b) rfl
  have s3 := owns_storeN (hf := Ev.cells_length) s2 (by simp [hl]) (x := ⟨a, b, c0, d0, e0⟩) (k := k) (by simp [hl, hk]) (y := ⟨a, b, c, d0, e0⟩) 2 (by decide) (u := .int .i64 c) rfl
  have s4 := owns_storeN (hf := Ev.cells_length) s3 (by simp [hl]) (x := ⟨a, b, c, d0, e0⟩) (k := k) (by simp [hl, hk]) (y := ⟨a, b, c, d, e0⟩) 3 (by decide) (u := .int .i64 d) rfl
  have s5 := owns_storeN (hf := Ev.cells_length) s4 (by simp [hl]) (x := ⟨a, b, c, d, e0⟩) (k := k) (by simp [hl, hk]) (y := ⟨a, b, c, d, e⟩) 4 (by decide) (u := .int .i64 e) rfl
  simp only [List.set_set] at s5
  exact s5
/-- The cells of a row behind its first ones are cleared. -/
theorem run_clear_ev (w : World) (ty : TypeId) (g i n c cap : Nat) (xs : List Value) (h : w.ownsRow 0 34 5 (.slice (some ⟨g, 0, none⟩) n cap) n xs) (hi : i < n) : ∃ vs : List Value,
    (Builtin.clear_ #[35] ty #[.slice (some ⟨g, i * 5, none⟩) (n - i) c]).run Try.prog w = .ok (.tuple #[]) (w.setCells g (i * 5) vs) := by
  rcases h.2 with ⟨h0, _⟩ | ⟨g1, cap1, cur, h0, _, hh, h1, _, h3, _⟩
  · simp at h0
  simp only [Value.slice.injEq, Option.some.injEq, Addr.mk.injEq, and_true, true_and] at h0
  obtain ⟨rfl, rfl⟩ := h0
  refine ⟨(Builtin.zeroCells (Value.agg #[.int .i64 0, .int .i64 0, .int .i64 0, .int .i64 0, .int .i64 0]).cells (n - i)).toList, ?_⟩
  have hlen : ((Builtin.zeroCells (Value.agg #[.int .i64 0, .int .i64 0, .int .i64 0, .int .i64 0, .int .i64 0]).cells (n - i)).toList).length = (n - i) * 5 := by simp [Value.cells, Builtin.zeroCells]
  have hst := run_storeCells_cells (P := Try.prog) g (i * 5) (Builtin.zeroCells (Value.agg #[.int .i64 0, .int .i64 0, .int .i64 0, .int .i64 0, .int .i64 0]).cells (n - i)).toList 0 w
    (fun j hj => by
      rw [hlen] at hj
      rw [cell_of_cells hh, Array.getElem?_eq_getElem (by rw [h3]; omega)]; rfl)
    (fun j hj => free_of_cells hh _)
    (fun v hv => by
      simp only [Builtin.zeroCells, Value.cells, Array.mem_toList_iff, Array.mem_map, Array.mem_range] at hv
      obtain ⟨j, _, rfl⟩ := hv
      have h5 : j % 5 < 5 := Nat.mod_lt _ (by decide)
      rcases (show j % 5 = 0 ∨ j % 5 = 1 ∨ j % 5 = 2 ∨ j % 5 = 3 ∨ j % 5 = 4 by omega) with h | h | h | h | h <;> simp [h] <;> rfl)
  simp only [Nat.add_zero] at hst
  obtain ⟨m, hm⟩ : ∃ m, n - i = m + 1 := ⟨n - i - 1, by omega⟩
  have hv : (zeroValue 34).run Try.prog w = .ok (.agg #[.int .i64 0, .int .i64 0, .int .i64 0, .int .i64 0, .int .i64 0]) w := by go_simp
  rw [hm] at hst ⊢
  simp [Builtin.clear_, run_underlying Try.underlying35, hv, hst]
theorem find_none {q : Ev → Bool} {L : List Ev} (h : L.findIdx? q = none) : L.filter (fun x => !q x) = L := by
  rw [List.filter_eq_self]
  intro x hx
  have := List.findIdx?_eq_none_iff.1 h x hx
  simp [this]
def retI (o : Option Nat) : Int := match o with | some k => (k : Int) | none => -1
theorem find_snoc {q : Ev → Bool} {L : List Ev} {j : Nat} {x : Ev} (hx : L[j]? = some x) (h : ∀ i y, i < j → L[i]? = some y → q y = false) (hq : q x = true) : L.findIdx? q = some j := by
  rw [List.findIdx?_eq_some_iff_getElem]
  obtain ⟨hl, he⟩ := List.getElem?_eq_some_iff.1 hx
  refine ⟨hl, by rw [he]; exact hq, fun i hi => ?_⟩
  have := h i _ hi (List.getElem?_eq_getElem (by omega))
  simp [this]
theorem find_no {q : Ev → Bool} {L : List Ev} (h : ∀ i y, i < L.length → L[i]? = some y → q y = false) : L.findIdx? q = none := by
  rw [List.findIdx?_eq_none_iff]
  intro x hx
  obtain ⟨i, hi, he⟩ := List.mem_iff_getElem.1 hx
  exact h i x hi (by rw [List.getElem?_eq_getElem hi, he])
set_option maxRecDepth 100000 in
set_option maxHeartbeats 800000 in
theorem indexEv_some (B : Nat) (q : Ev → Bool) (ad : Option Addr) (cap : Nat) (L : List Ev) (w : World) (hr : Reads w 5 (.slice ad L.length cap) L.length (L.flatMap Ev.cells)) (hl : L.length ≤ 1000000)
    (hq : ∀ W (x : Ev), Keeps (fun _ => False) w W → Calls Try.prog 60 #[x.agg, (.pointer (some ⟨B, 0, none⟩))] W fun e w' => e = .returned (.bool (q x)) ∧ Keeps (fun _ => False) W w') :
    Calls Try.prog 66 #[.slice ad L.length cap, .func (.func 60) #[] #[(.pointer (some ⟨B, 0, none⟩))]] w fun e w' => e = .returned (.int .i64 (retI (L.findIdx? q))) ∧ Keeps (fun _ => False) w w' := by
  obtain ⟨n, hn⟩ : ∃ n, L.length = n := ⟨_, rfl⟩
  obtain ⟨r, hrr⟩ : ∃ r, retI (L.findIdx? q) = r := ⟨_, rfl⟩
  rw [hrr]
  rw [hn] at hr hl ⊢
  have Hr := Lib.hid hr; clear hr; have Hq := Lib.hid hq; clear hq; have Hrr := Lib.hid hrr; clear hrr; have Hn := Lib.hid hn; clear hn
  go_enter Try.func66, Try.ntmps66
  go_wp2_with fail
  go_loopw [8] (fun c wx => ∃ j : Nat, j ≤ n ∧ c = .int .i64 (j : Nat) ∧ (∀ i y, i < j → L[i]? = some y → q y = false) ∧ Keeps (fun _ => False) w wx) (fun c _ => n - (intOf c).toNat)
  case atStart => exact ⟨0, Nat.zero_le _, rfl, fun i y h => absurd h (Nat.not_lt_zero _), Keeps.refl _ _⟩
  case round =>
    obtain ⟨j, hj, rfl, hno, hkx⟩ := hrel
    by_cases hjl : j < n
    · obtain ⟨x, hx⟩ := get_some (L := L) (k := j) (by rw [Hn.out]; exact hjl)
      have hjI : (j : Int) < (n : Int) := by omega
      obtain ⟨g, o, c, he, hc⟩ := (Hr.out.keeps hkx (by simp)).elem Ev.cells_length hx (by decide)
      simp only [Value.slice.injEq, true_and] at he
      obtain ⟨rfl, rfl⟩ := he
      have hcall := Hq.out wr x hkx
      obtain ⟨qx, hqx⟩ : ∃ b, q x = b := ⟨_, rfl⟩
      rw [hqx] at hcall
      obtain ⟨ki, da, tr, am, re⟩ := x
      have x0 : wr.cell? ⟨g, o + j * 5, none⟩ = some (.int .i64 ki) := hc 0 (by decide)
      have x1 : wr.cell? ⟨g, o + j * 5 + 1, none⟩ = some (.int .i64 da) := hc 1 (by decide)
      have x2 : wr.cell? ⟨g, o + j * 5 + 2, none⟩ = some (.int .i64 tr) := hc 2 (by decide)
      have x3 : wr.cell? ⟨g, o + j * 5 + 3, none⟩ = some (.int .i64 am) := hc 3 (by decide)
      have x4 : wr.cell? ⟨g, o + j * 5 + 4, none⟩ = some (.int .i64 re) := hc 4 (by decide)
      simp only [Ev.agg] at hcall
      clear hc
      rcases qx with _ | _
      · have hno' : ∀ i y, i < j + 1 → L[i]? = some y → q y = false := fun i y hi hy => by
          rcases Nat.lt_or_ge i j with h | h
          · exact hno i y h hy
          · obtain rfl : i = j := by omega
            rw [hx] at hy; cases hy; exact hqx
        have Hno := Lib.hid hno; clear hno; have Hno' := Lib.hid hno'; clear hno'; have Hx := Lib.hid hx; clear hx; have Hqx := Lib.hid hqx; clear hqx; have Hkx := Lib.hid hkx; clear hkx; have Hcall := Lib.hid hcall; clear hcall
        go_wp2_with (go_at_call 60; ((with_reducible refine Hcall.out.mono ?_); rintro e w1 ⟨rfl, hk1⟩; have Hk1 := Lib.hid hk1; clear hk1))
        go_roundw
        case rel => exact ⟨j + 1, by omega, by go_num, Hno'.out, Keeps.nt Hkx.out Hk1.out⟩
        case measure => simp [intOf]; omega
      · have hf := find_snoc hx hno hqx
        have Hno := Lib.hid hno; clear hno; have Hx := Lib.hid hx; clear hx; have Hqx := Lib.hid hqx; clear hqx; have Hkx := Lib.hid hkx; clear hkx; have Hcall := Lib.hid hcall; clear hcall; have Hf := Lib.hid hf; clear hf
        go_wp2_with (go_at_call 60; ((with_reducible refine Hcall.out.mono ?_); rintro e w1 ⟨rfl, hk1⟩; have Hk1 := Lib.hid hk1; clear hk1))
        go_ret
        exact ⟨by rw [← Hrr.out, Hf.out]; rfl, Keeps.nt Hkx.out Hk1.out⟩
    · obtain rfl : j = n := by omega
      have hf := find_no (q := q) (L := L) (fun i y hi hy => hno i y (by rw [Hn.out] at hi; exact hi) hy)
      have Hno := Lib.hid hno; clear hno; have Hkx := Lib.hid hkx; clear hkx; have Hf := Lib.hid hf; clear hf
      go_wp2_with fail
      go_ret
      exact ⟨by rw [← Hrr.out, Hf.out]; rfl, Hkx.out⟩
end Go.Proofs.Ytelhlbplbkglkaa
