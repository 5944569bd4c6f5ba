/- slices.DeleteFunc at events. -/
import Derived.Test.YtelhlbplbkglkaaDelEv
namespace Go.Proofs.Ytelhlbplbkglkaa
open Go.RowKit
/-- The round: what has been kept so far, and what lies behind. -/
structure KeptSt (q : Ev → Bool) (L X : List Ev) (n i j : Nat) : Prop where
  len : X.length = n
  lt : i < j
  le : j ≤ n
  pre : X.take i = (L.take j).filter (fun x => !q x)
  suf : X.drop j = L.drop j
theorem KeptSt.start {q : Ev → Bool} {L : List Ev} {n k : Nat} (hn : L.length = n) (h : L.findIdx? q = some k) : KeptSt q L L n k (k + 1) := by
  rw [List.findIdx?_eq_some_iff_getElem] at h
  obtain ⟨hk, hq, hno⟩ := h
  refine ⟨hn, Nat.lt_succ_self _, by omega, ?_, rfl⟩
  have hall : (L.take k).filter (fun x => !q x) = L.take k := by
    rw [List.filter_eq_self]
    intro x hx
    obtain ⟨i, hi, he⟩ := List.mem_iff_getElem.1 hx
    have hi' : i < k := by simp at hi; omega
    have := hno i hi'
    rw [List.getElem_take] at he
    rw [he] at this
    simpa using this
  rw [take_snoc' (List.getElem?_eq_getElem hk), List.filter_append, hall]
  simp [hq]
theorem KeptSt.at {q : Ev → Bool} {L X : List Ev} {n i j : Nat} (h : KeptSt q L X n i j) {x : Ev} (hx : X[j]? = some x) : L[j]? = some x := by
  have e := congrArg (fun l : List Ev => l[0]?) h.suf
  simpa [hx] using e.symm
theorem KeptSt.keep {q : Ev → Bool} {L X : List Ev} {n i j : Nat} (h : KeptSt q L X n i j) {x : Ev} (hx : X[j]? = some x) (hq : q x = false) : KeptSt q L (X.set i x) n (i + 1) (j + 1) := by
  have hj := lt_of_get hx
  have hl := h.len
  have hlt := h.lt
  refine ⟨by rw [List.length_set]; exact hl, by omega, by omega, ?_, ?_⟩
  · rw [take_snoc' (h.at hx), List.filter_append, ← h.pre]
    have e : (X.set i x)[i]? = some x := by rw [List.getElem?_set_self (by omega)]
    rw [take_snoc' e, List.take_set_of_le (Nat.le_refl _)]
    simp [hq]
  · rw [List.drop_set, if_pos (by omega), ← List.drop_drop, h.suf, List.drop_drop]
theorem KeptSt.skip {q : Ev → Bool} {L X : List Ev} {n i j : Nat} (h : KeptSt q L X n i j) {x : Ev} (hx : X[j]? = some x) (hq : q x = true) : KeptSt q L X n i (j + 1) := by
  have hj := lt_of_get hx
  have hl := h.len
  have hlt := h.lt
  refine ⟨hl, by omega, by omega, ?_, ?_⟩
  · rw [take_snoc' (h.at hx), List.filter_append, ← h.pre]
    simp [hq]
  · rw [← List.drop_drop, h.suf, List.drop_drop]
theorem KeptSt.done {q : Ev → Bool} {L X : List Ev} {n i : Nat} (hn : L.length = n) (h : KeptSt q L X n i n) : X.take i = L.filter (fun x => !q x) := by
  rw [h.pre, List.take_of_length_le (by omega)]
theorem KeptSt.cnt {q : Ev → Bool} {L X : List Ev} {n i j : Nat} (h : KeptSt q L X n i j) : i ≤ n := by have := h.lt; have := h.le; omega
theorem setCells_row (g : Nat) (e : TypeId) : ∀ (vs : List Value) (o : Nat) (w : World) (cur : Array Value), w.heap[g]? = some (.cells cur e (0, 0)) → ∃ cur' : Array Value, (w.setCells g o vs).heap[g]? = some (.cells cur' e (0, 0)) ∧ cur'.size = cur.size ∧ ∀ j, j < o → cur'[j]? = cur[j]?
  | [], _, _, cur, h => ⟨cur, h, rfl, fun _ _ => rfl⟩
  | v :: r, o, w, cur, h => by
    obtain ⟨cur', h1, h2, h3⟩ := setCells_row g e r (o + 1) (w.setCell ⟨g, o, none⟩ v) _ (heap_setCell_same _ _ o _ _ v h)
    refine ⟨cur', h1, by rw [h2]; simp, fun j hj => ?_⟩
    rw [h3 j (by omega), Array.getElem?_setIfInBounds_ne (by omega)]
/-- What stands ahead of the cleared cells is as it was. -/
theorem cleared_owns {w : World} {g n cap i : Nat} {X : List Ev} (h : w.ownsRow 0 34 5 (.slice (some ⟨g, 0, none⟩) n cap) n (X.flatMap Ev.cells)) (_ : X.length = n) (hi : i ≤ n) (vs : List Value) : (w.setCells g (i * 5) vs).ownsRow 0 34 5 (.slice (some ⟨g, 0, none⟩) i cap) i ((X.take i).flatMap Ev.cells) := by
  rcases h.2 with ⟨h0, _⟩ | ⟨g1, cap1, cur, h0, _, hh, h1, h2, h3, h4⟩
  · simp at h0
  simp only [Value.slice.injEq, Option.some.injEq, Addr.mk.injEq, and_true, true_and] at h0
  obtain ⟨rfl, rfl⟩ := h0
  obtain ⟨cur', c1, c2, c3⟩ := setCells_row g 34 vs (i * 5) w cur hh
  have hlx := h.1
  refine ⟨?_, .inr ⟨g, cap, cur', rfl, Nat.zero_le _, c1, by omega, h2, by rw [c2, h3], ?_⟩⟩
  · rw [← flat_takek Ev.cells_length, List.length_take, hlx]; omega
  · rw [← flat_takek Ev.cells_length, ← h4, List.take_take]
    rw [show min (i * 5) (n * 5) = i * 5 by omega]
    apply List.ext_getElem?
    intro j
    by_cases hj : j < i * 5
    · rw [List.getElem?_take, if_pos hj, List.getElem?_take, if_pos hj, Array.getElem?_toList, Array.getElem?_toList]; exact c3 j hj
    · rw [List.getElem?_take, if_neg hj, List.getElem?_take, if_neg hj]
theorem keeps_storeEv (w : World) (g o0 o1 o2 o3 o4 : Nat) (a b c d e : Value) : Keeps (fun i => g = i) w (((((w.setCell ⟨g, o0, none⟩ a).setCell ⟨g, o1, none⟩ b).setCell ⟨g, o2, none⟩ c).setCell ⟨g, o3, none⟩ d).setCell ⟨g, o4, none⟩ e) :=
  ((((Keeps.setCell (S := fun i => g = i) w _ _ rfl).trans (Keeps.setCell _ _ _ (.inl rfl))).trans (Keeps.setCell _ _ _ (.inl rfl))).trans (Keeps.setCell _ _ _ (.inl rfl))).trans (Keeps.setCell _ _ _ (.inl rfl))
set_option maxRecDepth 100000 in
set_option maxHeartbeats 3200000 in
theorem delEv_some (B : Nat) (q : Ev → Bool) (v : Value) (L : List Ev) (w : World) (hr : w.ownsRow 0 34 5 v L.length (L.flatMap Ev.cells)) (hl : L.length ≤ 1000000)
    (hq : ∀ W (x : Ev), Keeps (fun i => v.ownBlock = some i) w W → Calls Try.prog 60 #[x.agg, (.pointer (some ⟨B, 0, none⟩))] W fun e w' => e = .returned (.bool (q x)) ∧ Keeps (fun _ => False) W w') :
    Calls Try.prog 59 #[v, .func (.func 60) #[] #[(.pointer (some ⟨B, 0, none⟩))]] w fun e w' => ∃ v', e = .returned v' ∧ w'.ownsRow 0 34 5 v' (L.filter (fun x => !q x)).length ((L.filter (fun x => !q x)).flatMap Ev.cells) ∧ Keeps (fun i => v.ownBlock = some i) w w' ∧ (∀ g, v'.ownBlock = some g → v.ownBlock = some g) := by
  obtain ⟨ad, cap, rfl, hcap, hcm⟩ := ownsRow_shape hr
  have hidx := indexEv_some B q ad cap L w (Reads.of_owns hr) hl (fun W x hW => hq W x (hW.mono (by simp)))
  obtain ⟨n, hn⟩ : ∃ n, L.length = n := ⟨_, rfl⟩
  rcases hf : L.findIdx? q with _ | k
  · have hfil := find_none hf
    rw [hf] at hidx
    simp only [retI] at hidx
    rw [hfil]
    rw [hn] at hidx hr hl ⊢
    have Hidx := Lib.hid hidx; clear hidx; have Hr := Lib.hid hr; clear hr; have Hf := Lib.hid hf; clear hf; have Hfil := Lib.hid hfil; clear hfil; have Hn := Lib.hid hn; clear hn; have Hq := Lib.hid hq; clear hq
    go_enter Try.func59, Try.ntmps59
    go_wp2_with (go_at_call 66; ((with_reducible refine Hidx.out.mono ?_); rintro e w1 ⟨rfl, hk1⟩; have Hk1 := Lib.hid hk1; clear hk1))
    go_ret
    exact ⟨_, rfl, Hr.out.of_keeps Hk1.out, Hk1.out.mono (by simp), fun _ h => h⟩
  · have hstart := KeptSt.start hn hf
    have hk : k < n := by have := (List.findIdx?_eq_some_iff_getElem.1 hf).1; omega
    rw [hf] at hidx
    simp only [retI] at hidx
    rw [hn] at hidx hr hl hcap ⊢
    obtain ⟨g, c2, he, hg⟩ := owns_some hr (by omega)
    simp only [Value.slice.injEq, true_and] at he
    obtain ⟨rfl, rfl⟩ := he
    simp only [Value.ownBlock, Option.some.injEq] at hq ⊢
    have hne : ((k : Int) == -1) = false := beq_eq_false_iff_ne.2 (by omega)
    have Hidx := Lib.hid hidx; clear hidx; have Hr := Lib.hid hr; clear hr; have Hf := Lib.hid hf; clear hf; have Hn := Lib.hid hn; clear hn; have Hq := Lib.hid hq; clear hq; have Hstart := Lib.hid hstart; clear hstart
    go_enter Try.func59, Try.ntmps59
    go_wp2_with (go_at_call 66; ((with_reducible refine Hidx.out.mono ?_); rintro e w1 ⟨rfl, hk1⟩; have Hk1 := Lib.hid hk1; clear hk1))
    go_loopw [5, 6] (fun a c wx => ∃ (i j : Nat) (X : List Ev), a = .int .i64 (i : Nat) ∧ c = .int .i64 (j : Nat) ∧ KeptSt q L X n i j ∧ wx.ownsRow 0 34 5 (.slice (some ⟨g, 0, none⟩) n cap) n (X.flatMap Ev.cells) ∧ Keeps (fun i => g = i) w wx) (fun _ c _ => n - (intOf c).toNat)
    case atStart => exact ⟨k, k + 1, L, rfl, by go_num, Hstart.out, Hr.out.of_keeps Hk1.out, Hk1.out.mono (by simp)⟩
    case round =>
      obtain ⟨i, j, X, rfl, rfl, hst, hrow, hkx⟩ := hrel
      have hij := hst.lt
      have hjn := hst.le
      by_cases hjl : j < n
      · have hjI : (j : Int) < (n : Int) := by omega
        have hiI : (i : Int) < (n : Int) := by omega
        obtain ⟨x, hx⟩ := get_some (L := X) (k := j) (by rw [hst.len]; exact hjl)
        have hrowX : wr.ownsRow 0 34 5 (.slice (some ⟨g, 0, none⟩) X.length cap) X.length (X.flatMap Ev.cells) := by rw [hst.len]; exact hrow
        obtain ⟨qx, hqx⟩ : ∃ b, q x = b := ⟨_, rfl⟩
        have hcall : ∀ W, Keeps (fun _ => False) wr W → Calls Try.prog 60 #[x.agg, (.pointer (some ⟨B, 0, none⟩))] W fun e w' => e = .returned (.bool (q x)) ∧ Keeps (fun _ => False) W w' := fun W hW => Hq.out W x (hkx.trans (hW.mono (by simp)))
        rw [hqx] at hcall
        obtain ⟨ki, da, tr, am, re⟩ := x
        have x0 : wr.cell? ⟨g, j * 5, none⟩ = some (.int .i64 ki) := owns_elem Ev.cells_length hrowX hx 0 (by decide)
        have x1 : wr.cell? ⟨g, j * 5 + 1, none⟩ = some (.int .i64 da) := owns_elem Ev.cells_length hrowX hx 1 (by decide)
        have x2 : wr.cell? ⟨g, j * 5 + 2, none⟩ = some (.int .i64 tr) := owns_elem Ev.cells_length hrowX hx 2 (by decide)
        have x3 : wr.cell? ⟨g, j * 5 + 3, none⟩ = some (.int .i64 am) := owns_elem Ev.cells_length hrowX hx 3 (by decide)
        have x4 : wr.cell? ⟨g, j * 5 + 4, none⟩ = some (.int .i64 re) := owns_elem Ev.cells_length hrowX hx 4 (by decide)
        simp only [Ev.agg] at hcall
        have hgl := cell_lt x0
        clear hrowX
        rcases qx with _ | _
        · have hst' := hst.keep hx hqx
          have Hst := Lib.hid hst; clear hst; have Hst' := Lib.hid hst'; clear hst'; have Hx := Lib.hid hx; clear hx; have Hqx := Lib.hid hqx; clear hqx; have Hcall := Lib.hid hcall; clear hcall; have Hrow := Lib.hid hrow; clear hrow; have Hkx := Lib.hid hkx; clear hkx
          go_wp2_with fail
          refine (Hcall.out _ (by (repeat (first | exact Keeps.refl _ _ | exact Keeps.alloc _ _ | exact Keeps.drew _ | exact Keeps.drewN _ _ | refine Keeps.trans_drew ?_ | refine Keeps.trans_drewN ?_ | refine Keeps.trans_alloc ?_)))).mono ?_
          rintro e w2 ⟨rfl, hk2⟩
          have hk3 := Keeps.nt (Keeps.alloc wr (.cells #[.int .i64 ki, .int .i64 da, .int .i64 tr, .int .i64 am, .int .i64 re] 34)) hk2
          have hrow3 := Hrow.out.of_keeps hk3
          have hrowX : w2.ownsRow 0 34 5 (.slice (some ⟨g, 0, none⟩) X.length cap) X.length (X.flatMap Ev.cells) := by rw [Hst.out.len]; exact hrow3
          obtain ⟨⟨yk, yd, yt, ya, yr⟩, hy⟩ := get_some (L := X) (k := i) (by rw [Hst.out.len]; omega)
          have y0 : w2.cell? ⟨g, i * 5, none⟩ = some (.int .i64 yk) := owns_elem Ev.cells_length hrowX hy 0 (by decide)
          have y1 : w2.cell? ⟨g, i * 5 + 1, none⟩ = some (.int .i64 yd) := owns_elem Ev.cells_length hrowX hy 1 (by decide)
          have y2 : w2.cell? ⟨g, i * 5 + 2, none⟩ = some (.int .i64 yt) := owns_elem Ev.cells_length hrowX hy 2 (by decide)
          have y3 : w2.cell? ⟨g, i * 5 + 3, none⟩ = some (.int .i64 ya) := owns_elem Ev.cells_length hrowX hy 3 (by decide)
          have y4 : w2.cell? ⟨g, i * 5 + 4, none⟩ = some (.int .i64 yr) := owns_elem Ev.cells_length hrowX hy 4 (by decide)
          have hfr : ∀ o, w2.frozen? ⟨g, o, none⟩ = false := fun o => by
            rcases hrow3.2 with ⟨h0, _⟩ | ⟨g1, cap1, cur, h0, _, hh, _⟩
            · simp at h0
            · simp only [Value.slice.injEq, Option.some.injEq, Addr.mk.injEq, and_true, true_and] at h0
              obtain ⟨rfl, rfl⟩ := h0
              exact free_of_cells hh o
          have f0 := hfr (i * 5)
          have f1 := hfr (i * 5 + 1)
          have f2 := hfr (i * 5 + 2)
          have f3 := hfr (i * 5 + 3)
          have f4 := hfr (i * 5 + 4)
          have v0 : w2.heap[wr.heap.size]? = some (.cells #[.int .i64 ki, .int .i64 da, .int .i64 tr, .int .i64 am, .int .i64 re] 34 (0, 0)) := box_new hk2 (by simp)
          have vc0 := cell_of_cells v0 0
          have vc1 := cell_of_cells v0 1
          have vc2 := cell_of_cells v0 2
          have vc3 := cell_of_cells v0 3
          have vc4 := cell_of_cells v0 4
          have hnew := owns_storeEv hrow3 Hst.out.len (k := i) (by omega) ki da tr am re
          clear hrowX hfr
          have Hk3 := Lib.hid hk3; clear hk3; have Hrow3 := Lib.hid hrow3; clear hrow3; have Hy := Lib.hid hy; clear hy; have V0 := Lib.hid v0; clear v0; have Hnew := Lib.hid hnew; clear hnew
          clear hk2
          go_wp2_with fail
          go_roundw
          case rel => exact ⟨i + 1, j + 1, X.set i ⟨ki, da, tr, am, re⟩, by go_num, by go_num, Hst'.out, Hnew.out, Hkx.out.trans (((Hk3.out.mono (by simp)).trans ((keeps_storeEv w2 g _ _ _ _ _ _ _ _ _ _).mono fun _ _ h => .inl h)).mono fun _ _ h => .inl h)⟩
          case measure => simp [intOf]; omega
        · have hst' := hst.skip hx hqx
          have Hst := Lib.hid hst; clear hst; have Hst' := Lib.hid hst'; clear hst'; have Hx := Lib.hid hx; clear hx; have Hqx := Lib.hid hqx; clear hqx; have Hcall := Lib.hid hcall; clear hcall; have Hrow := Lib.hid hrow; clear hrow; have Hkx := Lib.hid hkx; clear hkx
          go_wp2_with fail
          refine (Hcall.out _ (by (repeat (first | exact Keeps.refl _ _ | exact Keeps.alloc _ _ | exact Keeps.drew _ | exact Keeps.drewN _ _ | refine Keeps.trans_drew ?_ | refine Keeps.trans_drewN ?_ | refine Keeps.trans_alloc ?_)))).mono ?_
          rintro e w2 ⟨rfl, hk2⟩
          have hk3 := Keeps.nt (Keeps.alloc wr (.cells #[.int .i64 ki, .int .i64 da, .int .i64 tr, .int .i64 am, .int .i64 re] 34)) hk2
          have Hk3 := Lib.hid hk3; clear hk3
          clear hk2
          go_wp2_with fail
          go_roundw
          case rel => exact ⟨i, j + 1, X, rfl, by go_num, Hst'.out, Hrow.out.of_keeps Hk3.out, Hkx.out.trans (Hk3.out.mono (by simp))⟩
          case measure => simp [intOf]; omega
      · obtain rfl : j = n := by omega
        have hin : i < j := hij
        have hcl : ∀ ty, ∃ vs : List Value, (Builtin.clear_ #[35] ty #[.slice (some ⟨g, i * 5, none⟩) (j - i) (cap - i)]).run Try.prog wr = .ok (.tuple #[]) (wr.setCells g (i * 5) vs) := fun ty => run_clear_ev wr ty g i j (cap - i) cap _ hrow hin
        have hiI : (i : Int) ≤ (j : Int) := by omega
        obtain ⟨vs, hcl1⟩ := hcl 0
        have hci : ¬ cap = i := by omega
        have hiC : (i : Int) ≤ (cap : Int) := by omega
        have hiC2 : i ≤ cap := by omega
        have hdone := hst.done Hn.out
        have hrd := cleared_owns hrow hst.len hst.cnt vs
        rw [hdone] at hrd
        have hlen : (L.filter (fun x => !q x)).length = i := by rw [← hdone, List.length_take, hst.len]; omega
        clear hcl
        have Hst := Lib.hid hst; clear hst; have Hrow := Lib.hid hrow; clear hrow; have Hkx := Lib.hid hkx; clear hkx; have Hdone := Lib.hid hdone; clear hdone; have Hrd := Lib.hid hrd; clear hrd; have Hlen := Lib.hid hlen; clear hlen
        go_wp2_with fail
        go_ret
        exact ⟨_, rfl, by rw [Hlen.out]; exact Hrd.out, Hkx.out.trans ((keeps_setCells g vs (i * 5) wr).mono fun _ _ h => .inl h.symm), fun g' hg' => by simpa [Value.ownBlock] using hg'⟩
end Go.Proofs.Ytelhlbplbkglkaa
