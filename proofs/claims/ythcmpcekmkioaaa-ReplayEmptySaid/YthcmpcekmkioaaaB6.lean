/- The walks of the library's stable sort at events: the merge of two runs, the middle behind the first one. -/
import Derived.Shelf.Abstract
import Derived.Test.YthcmpcekmkioaaaB5
namespace Go.Proofs.Ythcmpcekmkioaaa
open Go.RowKit
structure KeptSt (q : Ev → Bool) (L X : List Ev) (n i j : Nat) : Prop where
 len : X.length = n
 lt : i < j
 le : j ≤ n
 pre : X.take i = (L.take j).filter (fun x => !q x)
 suf : X.drop j = L.drop j
theorem KeptSt.start {q : Ev → Bool} {L : List Ev} {n k : Nat} (hn : L.length = n) (h : L.findIdx? q = some k) : KeptSt q L L n k (k + 1) := by
 rw [List.findIdx?_eq_some_iff_getElem] at h
 obtain ⟨hk, hq, hno⟩ := h
 refine ⟨hn, Nat.lt_succ_self _, by omega, ?_, rfl⟩
 have hall : (L.take k).filter (fun x => !q x) = L.take k := by
  rw [List.filter_eq_self]
  intro x hx
  obtain ⟨i, hi, he⟩ := List.mem_iff_getElem.1 hx
  have hi' : i < k := by simp at hi; omega
  have := hno i hi'
  rw [List.getElem_take] at he
  rw [he] at this
  simpa using this
 rw [take_snoc' (List.getElem?_eq_getElem hk), List.filter_append, hall]
 simp [hq]
theorem KeptSt.at {q : Ev → Bool} {L X : List Ev} {n i j : Nat} (h : KeptSt q L X n i j) {x : Ev} (hx : X[j]? = some x) : L[j]? = some x := by
 have e := congrArg (fun l : List Ev => l[0]?) h.suf
 simpa [hx] using e.symm
theorem KeptSt.keep {q : Ev → Bool} {L X : List Ev} {n i j : Nat} (h : KeptSt q L X n i j) {x : Ev} (hx : X[j]? = some x) (hq : q x = false) : KeptSt q L (X.set i x) n (i + 1) (j + 1) := by
 have hj := lt_of_get hx
 have hl := h.len
 have hlt := h.lt
 refine ⟨by rw [List.length_set]; exact hl, by omega, by omega, ?_, ?_⟩
 ·rw [take_snoc' (h.at hx), List.filter_append, ← h.pre]
  have e : (X.set i x)[i]? = some x := by rw [List.getElem?_set_self (by omega)]
  rw [take_snoc' e, List.take_set_of_le (Nat.le_refl _)]
  simp [hq]
 ·rw [List.drop_set, if_pos (by omega), ← List.drop_drop, h.suf, List.drop_drop]
theorem KeptSt.skip {q : Ev → Bool} {L X : List Ev} {n i j : Nat} (h : KeptSt q L X n i j) {x : Ev} (hx : X[j]? = some x) (hq : q x = true) : KeptSt q L X n i (j + 1) := by
 have hj := lt_of_get hx
 have hl := h.len
 have hlt := h.lt
 refine ⟨hl, by omega, by omega, ?_, ?_⟩
 ·rw [take_snoc' (h.at hx), List.filter_append, ← h.pre]
  simp [hq]
 ·rw [← List.drop_drop, h.suf, List.drop_drop]
theorem KeptSt.done {q : Ev → Bool} {L X : List Ev} {n i : Nat} (hn : L.length = n) (h : KeptSt q L X n i n) : X.take i = L.filter (fun x => !q x) := by
 rw [h.pre, List.take_of_length_le (by omega)]
theorem KeptSt.cnt {q : Ev → Bool} {L X : List Ev} {n i j : Nat} (h : KeptSt q L X n i j) : i ≤ n := by have := h.lt; have := h.le; omega
theorem setCells_row (g : Nat) (e : TypeId) : ∀ (vs : List Value) (o : Nat) (w : World) (cur : Array Value), w.heap[g]? = some (.cells cur e (0, 0)) → ∃ cur' : Array Value, (w.setCells g o vs).heap[g]? = some (.cells cur' e (0, 0)) ∧ cur'.size = cur.size ∧ ∀ j, j < o → cur'[j]? = cur[j]?
 | [], _, _, cur, h => ⟨cur, h, rfl, fun _ _ => rfl⟩
 | v :: r, o, w, cur, h => by
  obtain ⟨cur', h1, h2, h3⟩ := setCells_row g e r (o + 1) (w.setCell ⟨g, o, none⟩ v) _ (heap_setCell_same _ _ o _ _ v h)
  refine ⟨cur', h1, by rw [h2]; simp, fun j hj => ?_⟩
  rw [h3 j (by omega), Array.getElem?_setIfInBounds_ne (by omega)]
theorem cleared_owns {w : World} {g n cap i : Nat} {X : List Ev} (h : w.ownsRow 0 54 5 (.slice (some ⟨g, 0, none⟩) n cap) n (X.flatMap Ev.cells)) (_ : X.length = n) (hi : i ≤ n) (vs : List Value) : (w.setCells g (i * 5) vs).ownsRow 0 54 5 (.slice (some ⟨g, 0, none⟩) i cap) i ((X.take i).flatMap Ev.cells) := by
 rcases h.2 with ⟨h0, _⟩ | ⟨g1, cap1, cur, h0, _, hh, h1, h2, h3, h4⟩
 ·simp at h0
 simp only [Value.slice.injEq, Option.some.injEq, Addr.mk.injEq, and_true, true_and] at h0
 obtain ⟨rfl, rfl⟩ := h0
 obtain ⟨cur', c1, c2, c3⟩ := setCells_row g 54 vs (i * 5) w cur hh
 have hlx := h.1
 refine ⟨?_, .inr ⟨g, cap, cur', rfl, Nat.zero_le _, c1, by omega, h2, by rw [c2, h3], ?_⟩⟩
 ·rw [← flat_takek Ev.cells_length, List.length_take, hlx]; omega
 ·rw [← flat_takek Ev.cells_length, ← h4, List.take_take]
  rw [show min (i * 5) (n * 5) = i * 5 by omega]
  apply List.ext_getElem?
  intro j
  by_cases hj : j < i * 5
  ·rw [List.getElem?_take, if_pos hj, List.getElem?_take, if_pos hj, Array.getElem?_toList, Array.getElem?_toList]; exact c3 j hj
  ·rw [List.getElem?_take, if_neg hj, List.getElem?_take, if_neg hj]
theorem keeps_storeEv (w : World) (g o0 o1 o2 o3 o4 : Nat) (a b c d e : Value) : Keeps (fun i => g = i) w (((((w.setCell ⟨g, o0, none⟩ a).setCell ⟨g, o1, none⟩ b).setCell ⟨g, o2, none⟩ c).setCell ⟨g, o3, none⟩ d).setCell ⟨g, o4, none⟩ e) :=
 ((((Keeps.setCell (S := fun i => g = i) w _ _ rfl).trans (Keeps.setCell _ _ _ (.inl rfl))).trans (Keeps.setCell _ _ _ (.inl rfl))).trans (Keeps.setCell _ _ _ (.inl rfl))).trans (Keeps.setCell _ _ _ (.inl rfl))
end Go.Proofs.Ythcmpcekmkioaaa
namespace Go.Proofs.Ythcmpcekmkioaaa
open Go.RowKit
theorem Keeps.same {S : Nat → Prop} {a b c : World} (h : Keeps S a b) (h' : Keeps S b c) : Keeps S a c := h.trans (h'.mono fun _ _ e => .inl e)
def RowE (w : World) (g n cap : Nat) (X : List Ev) : Prop := w.ownsRow 0 54 5 (.slice (some ⟨g, 0, none⟩) n cap) n (X.flatMap Ev.cells) ∧ X.length = n
theorem RowE.keep {w w' : World} {g n cap : Nat} {X : List Ev} (h : RowE w g n cap X) (hk : Keeps (fun _ => False) w w') : RowE w' g n cap X := ⟨hk.row h.1 (by simp), h.2⟩
theorem RowE.lt {w : World} {g n cap : Nat} {X : List Ev} (h : RowE w g n cap X) : g < w.heap.size := own_lt h.1 rfl
theorem RowE.cells {w : World} {g n cap : Nat} {X : List Ev} (h : RowE w g n cap X) {k : Nat} {x : Ev} (hx : X[k]? = some x) :
  w.cell? ⟨g, k * 5, none⟩ = some (.int .i64 x.kind) ∧ w.cell? ⟨g, k * 5 + 1, none⟩ = some (.int .i64 x.day) ∧ w.cell? ⟨g, k * 5 + 2, none⟩ = some (.int .i64 x.tranche) ∧ w.cell? ⟨g, k * 5 + 3, none⟩ = some (.int .i64 x.amount) ∧ w.cell? ⟨g, k * 5 + 4, none⟩ = some (.int .i64 x.ref) := by
 obtain ⟨h, rfl⟩ := h
 exact ⟨owns_elem Ev.cells_length h hx 0 (by decide), owns_elem Ev.cells_length h hx 1 (by decide), owns_elem Ev.cells_length h hx 2 (by decide), owns_elem Ev.cells_length h hx 3 (by decide), owns_elem Ev.cells_length h hx 4 (by decide)⟩
theorem RowE.free {w : World} {g n cap : Nat} {X : List Ev} (h : RowE w g n cap X) (o : Nat) : w.frozen? ⟨g, o, none⟩ = false := by
 rcases h.1.2 with ⟨h0, _⟩ | ⟨g1, cap1, cur, h0, _, hh, _⟩
 ·simp at h0
 ·simp only [Value.slice.injEq, Option.some.injEq, Addr.mk.injEq, and_true, true_and] at h0
  obtain ⟨rfl, rfl⟩ := h0
  exact free_of_cells hh o
def putE (w : World) (g k : Nat) (a b c d e : Int) : World := ((((w.setCell ⟨g, k * 5, none⟩ (.int .i64 a)).setCell ⟨g, k * 5 + 1, none⟩ (.int .i64 b)).setCell ⟨g, k * 5 + 2, none⟩ (.int .i64 c)).setCell ⟨g, k * 5 + 3, none⟩ (.int .i64 d)).setCell ⟨g, k * 5 + 4, none⟩ (.int .i64 e)
theorem RowE.put {w : World} {g n cap : Nat} {X : List Ev} (h : RowE w g n cap X) {k : Nat} (hk : k < n) (a b c d e : Int) : RowE (putE w g k a b c d e) g n cap (X.set k ⟨a, b, c, d, e⟩) :=
 ⟨owns_storeEv h.1 h.2 hk a b c d e, by simp [h.2]⟩
theorem putE_keeps (w : World) (g k : Nat) (a b c d e : Int) : Keeps (fun i => i = g) w (putE w g k a b c d e) := (keeps_storeEv w g _ _ _ _ _ _ _ _ _ _).mono fun _ _ h => h.symm
theorem RowE.swp {w : World} {g n cap : Nat} {X : List Ev} (h : RowE w g n cap X) {i j : Nat} {a b c d e a' b' c' d' e' : Int} (hi : X[i]? = some ⟨a, b, c, d, e⟩) (hj : X[j]? = some ⟨a', b', c', d', e'⟩) :
  RowE (putE (putE w g i a' b' c' d' e') g j a b c d e) g n cap (swp X i j) := by
 rw [swp_of hi hj]
 have := lt_of_get hi
 have := lt_of_get hj
 have := h.2
 exact (h.put (by omega) _ _ _ _ _).put (by omega) _ _ _ _ _
structure Sw (L X : List Ev) (a b i : Nat) : Prop where
 len : X.length = L.length
 at' : ∀ t, X[t]? = if a ≤ t ∧ t < a + i then L[t + (b - a)]? else if b ≤ t ∧ t < b + i then L[t - (b - a)]? else L[t]?
theorem Sw.start (L : List Ev) (a b : Nat) : Sw L L a b 0 := ⟨rfl, fun t => by rw [if_neg (by omega), if_neg (by omega)]⟩
theorem Sw.next {L X : List Ev} {a b i : Nat} (h : Sw L X a b i) (hab : a + i < b) (hb : b + i < L.length) : Sw L (swp X (a + i) (b + i)) a b (i + 1) := by
 refine ⟨by rw [swp_length]; exact h.len, fun t => ?_⟩
 have hl := h.len
 rw [swp_get (by omega) (by omega), h.at', h.at', h.at']
 repeat' split
 all_goals first | (exfalso; omega) | rfl | (congr 1; omega)
theorem Sw.done {P U M V S : List Ev} {X : List Ev} {n : Nat} (hU : U.length = n) (hV : V.length = n) (h : Sw (P ++ U ++ M ++ V ++ S) X P.length (P.length + n + M.length) n) : X = P ++ V ++ M ++ U ++ S := by
 refine List.ext_getElem? fun t => ?_
 rw [h.at']
 simp only [List.getElem?_append, List.length_append, hU, hV]
 repeat' split
 all_goals first | (exfalso; omega) | rfl | (congr 1; omega)
set_option maxRecDepth 100000 in
set_option maxHeartbeats 3200000 in
theorem swapEv_go (g n cap a b m : Nat) (L : List Ev) (fv : Value) (w : World) (h : RowE w g n cap L) (hab : a + m ≤ b) (hb : b + m ≤ n) (hn : n ≤ 1000000) :
  Calls Try.prog 122 #[.slice (some ⟨g, 0, none⟩) n cap, .int .i64 a, .int .i64 b, .int .i64 m, fv] w fun e w' => e = .returned (.tuple #[]) ∧ ∃ X, Sw L X a b m ∧ RowE w' g n cap X ∧ Keeps (fun i => i = g) w w' := by
 have H := Lib.hid h; clear h
 go_enter Try.func122, Try.ntmps122
 go_wp2
 go_loopw [10] (fun x wx => ∃ (i : Nat) (X : List Ev), x = .int .i64 (i : Nat) ∧ i ≤ m ∧ Sw L X a b i ∧ RowE wx g n cap X ∧ Keeps (fun i => i = g) w wx) (fun x _ => m - (intOf x).toNat)
 case atStart => exact ⟨0, L, rfl, Nat.zero_le _, Sw.start _ _ _, H.out, Keeps.refl _ _⟩
 case round =>
  obtain ⟨i, X, rfl, him, hsw, hrow, hk⟩ := hrel
  by_cases hlt : i < m
  ·have hltI : (i : Int) < (m : Int) := by omega
   have hXn := hrow.2
   have hLn := H.out.2
   obtain ⟨⟨x0, x1, x2, x3, x4⟩, hx⟩ := get_some (L := X) (k := a + i) (by omega)
   obtain ⟨⟨y0, y1, y2, y3, y4⟩, hy⟩ := get_some (L := X) (k := b + i) (by omega)
   obtain ⟨c0, c1, c2, c3, c4⟩ := hrow.cells hx
   obtain ⟨d0, d1, d2, d3, d4⟩ := hrow.cells hy
   have hnext := hsw.next (by omega) (by omega)
   have hrow' := (hrow.swp hx hy).keep (Keeps.drew _)
   have hk2 := hk.same (((putE_keeps wr g (a + i) y0 y1 y2 y3 y4).same (putE_keeps _ g (b + i) x0 x1 x2 x3 x4)).same (Keeps.drew _))
   have fa0 : wr.frozen? ⟨g, (a + i) * 5, none⟩ = false := hrow.free _
   have fa1 : wr.frozen? ⟨g, (a + i) * 5 + 1, none⟩ = false := hrow.free _
   have fa2 : wr.frozen? ⟨g, (a + i) * 5 + 2, none⟩ = false := hrow.free _
   have fa3 : wr.frozen? ⟨g, (a + i) * 5 + 3, none⟩ = false := hrow.free _
   have fa4 : wr.frozen? ⟨g, (a + i) * 5 + 4, none⟩ = false := hrow.free _
   have fb0 : wr.frozen? ⟨g, (b + i) * 5, none⟩ = false := hrow.free _
   have fb1 : wr.frozen? ⟨g, (b + i) * 5 + 1, none⟩ = false := hrow.free _
   have fb2 : wr.frozen? ⟨g, (b + i) * 5 + 2, none⟩ = false := hrow.free _
   have fb3 : wr.frozen? ⟨g, (b + i) * 5 + 3, none⟩ = false := hrow.free _
   have fb4 : wr.frozen? ⟨g, (b + i) * 5 + 4, none⟩ = false := hrow.free _
   have hp0 : (0 : Int) ≤ (a : Int) + i := by omega
   have hp1 : (a : Int) + i < n := by omega
   have hq0 : (0 : Int) ≤ (b : Int) + i := by omega
   have hq1 : (b : Int) + i < n := by omega
   have e1 : ((a : Int) + i).toNat = a + i := by omega
   have e2 : ((b : Int) + i).toNat = b + i := by omega
   unfold putE at hrow' hk2
   obtain ⟨Hsw, Hrow, Hx, Hy, Hnext, Hrow', Hk, Hk2⟩ := hid8 hsw hrow hx hy hnext hrow' hk hk2; clear hk2 hk hrow' hnext hy hx hrow hsw
   go_wp2_with fail
   go_region
   all_goals go_wp2_with fail
   all_goals go_roundw
   case rel => exact ⟨i + 1, _, by go_num, by omega, Hnext.out, Hrow'.out, Hk2.out⟩
   case measure => simp [intOf]; omega
  ·go_wp2
   go_end0
   obtain rfl : i = m := by omega
   exact ⟨rfl, X, hsw, hrow, hk⟩
theorem swapEv_any (P U M V S : List Ev) (g n cap : Nat) (fv : Value) (x y z : Int) (w : World) (h : RowE w g n cap (P ++ U ++ M ++ V ++ S)) (hUV : V.length = U.length) (hn : n ≤ 1000000) (hx : x = P.length) (hy : y = ((P.length + U.length + M.length : Nat) : Int)) (hz : z = U.length) :
  Calls Try.prog 122 #[.slice (some ⟨g, 0, none⟩) n cap, .int .i64 x, .int .i64 y, .int .i64 z, fv] w fun e w' => e = .returned (.tuple #[]) ∧ RowE w' g n cap (P ++ V ++ M ++ U ++ S) ∧ Keeps (fun i => i = g) w w' := by
 have hl := h.2
 simp only [List.length_append, hUV] at hl
 subst hx hy hz
 refine (swapEv_go g n cap _ _ _ _ fv w h (by omega) (by omega) hn).mono ?_
 rintro e w' ⟨he, X, hX, hr, hk⟩
 rw [Sw.done rfl hUV hX] at hr
 exact ⟨he, hr, hk⟩
set_option maxRecDepth 100000 in
set_option maxHeartbeats 3200000 in
theorem rotEv_any (P U V S : List Ev) (g n cap a m b : Nat) (fv : Value) (w : World) (h : RowE w g n cap (P ++ U ++ V ++ S)) (hU : U ≠ []) (hV : V ≠ []) (hn : n ≤ 1000000) (ha : a = P.length) (hm : m = P.length + U.length) (hb : b = P.length + U.length + V.length) :
  Calls Try.prog 107 #[.slice (some ⟨g, 0, none⟩) n cap, .int .i64 a, .int .i64 m, .int .i64 b, fv] w fun e w' => e = .returned (.tuple #[]) ∧ RowE w' g n cap (P ++ V ++ U ++ S) ∧ Keeps (fun i => i = g) w w' := by
 have hU0 : 0 < U.length := List.length_pos_iff.2 hU
 have hV0 : 0 < V.length := List.length_pos_iff.2 hV
 have hl := h.2
 simp only [List.length_append] at hl
 have hma : (m : Int) - a = (U.length : Nat) := by omega
 have hbm : (b : Int) - m = (V.length : Nat) := by omega
 have hbn : b ≤ n := by omega
 have ham : a < m := by omega
 have hmb : m < b := by omega
 obtain ⟨G, hG⟩ : ∃ G, P ++ V ++ U ++ S = G := ⟨_, rfl⟩
 rw [hG]
 obtain ⟨H, HG, Ha, Hm, Hb, Hl, HU, HV⟩ := hid8 h hG ha hm hb hl hU hV; clear hV hU hl hb hm ha hG h
 go_enter Try.func107, Try.ntmps107
 go_wp2
 go_loopw [10, 11] (fun x y wx => ∃ (i j : Nat) (P' U' V' S' : List Ev), x = .int .i64 (i : Nat) ∧ y = .int .i64 (j : Nat) ∧ U'.length = i ∧ V'.length = j ∧ P'.length + i = m ∧ 0 < i ∧ 0 < j ∧ m + j ≤ b ∧ P' ++ V' ++ U' ++ S' = G ∧ RowE wx g n cap (P' ++ U' ++ V' ++ S') ∧ Keeps (fun i => i = g) w wx) (fun x y _ => (intOf x).toNat + (intOf y).toNat)
 case atStart => exact ⟨U.length, V.length, P, U, V, S, by go_num, by go_num, rfl, rfl, Hm.out.symm, hU0, hV0, by have := Hb.out; have := Hm.out; omega, HG.out, H.out, Keeps.refl _ _⟩
 case round =>
  obtain ⟨i, j, P', U', V', S', rfl, rfl, hu, hv, hp, hi, hj, hmj, hg, hrow, hk⟩ := hrel
  have him : i ≤ m := by omega
  by_cases hij : i = j
  ·subst hij
   have hrow1 : RowE wr g n cap (P' ++ U' ++ [] ++ V' ++ S') := by simpa using hrow
   have hc := swapEv_any P' U' [] V' S' g n cap fv ((m : Int) - i) m i wr hrow1 (by omega) hn (by omega) (by simp only [List.length_nil]; omega) (by omega)
   simp only [List.append_nil, hg] at hc
   obtain ⟨Hrow, Hrow1, Hc, Hg, Hk, Hu, Hv, Hp⟩ := hid8 hrow hrow1 hc hg hk hu hv hp; clear hp hv hu hk hg hc hrow1 hrow
   go_wp2_with (go_at_call 122; (with_reducible refine Hc.out.mono ?_); rintro e w1 ⟨rfl, hr1, hk1⟩; have Hr1 := Lib.hid hr1; have Hk1 := Lib.hid hk1; clear hr1 hk1)
   go_end0
   exact ⟨rfl, Hr1.out, Hk.out.same Hk1.out⟩
  ·by_cases hlt : j < i
   ·obtain ⟨U1, U2, rfl, hu1⟩ : ∃ U1 U2, U' = U1 ++ U2 ∧ U1.length = j := ⟨U'.take j, U'.drop j, (List.take_append_drop _ _).symm, by rw [List.length_take]; omega⟩
    rw [List.length_append] at hu
    have hrow1 : RowE wr g n cap (P' ++ U1 ++ U2 ++ V' ++ S') := by simpa using hrow
    have hc := swapEv_any P' U1 U2 V' S' g n cap fv ((m : Int) - i) m j wr hrow1 (by omega) hn (by omega) (by omega) (by omega)
    have hg' : (P' ++ V') ++ U1 ++ U2 ++ S' = G := by rw [← hg]; simp
    have hltI : (j : Int) < i := by omega
    have hneI : ((i : Int) == j) = false := by simp; omega
    obtain ⟨Hrow, Hrow1, Hc, Hg, Hg', Hk, Hu, Hv, Hp⟩ := hid9 hrow hrow1 hc hg hg' hk hu hv hp; clear hp hv hu hk hg' hg hc hrow1 hrow; have Hu1 := Lib.hid hu1; clear hu1
    go_wp2_with (go_at_call 122; (with_reducible refine Hc.out.mono ?_); rintro e w1 ⟨rfl, hr1, hk1⟩; have Hr1 := Lib.hid hr1; have Hk1 := Lib.hid hk1; clear hr1 hk1)
    go_roundw
    case rel => exact ⟨i - j, j, P' ++ V', U2, U1, S', by go_num, rfl, by have := Hu.out; have := Hu1.out; omega, Hu1.out, by rw [List.length_append, Hv.out]; have := Hp.out; omega, by omega, hj, hmj, Hg'.out, Hr1.out, Hk.out.same Hk1.out⟩
    case measure => simp [intOf]; omega
   ·obtain ⟨V1, V2, rfl, hv1⟩ : ∃ V1 V2, V' = V1 ++ V2 ∧ V2.length = i := ⟨V'.take (j - i), V'.drop (j - i), (List.take_append_drop _ _).symm, by rw [List.length_drop]; omega⟩
    rw [List.length_append] at hv
    have hrow1 : RowE wr g n cap (P' ++ U' ++ V1 ++ V2 ++ S') := by simpa using hrow
    have hc := swapEv_any P' U' V1 V2 S' g n cap fv ((m : Int) - i) ((m : Int) + j - i) i wr hrow1 (by omega) hn (by omega) (by omega) (by omega)
    have hg' : P' ++ V1 ++ V2 ++ (U' ++ S') = G := by rw [← hg]; simp
    have hr' : ∀ w1, RowE w1 g n cap (P' ++ V2 ++ V1 ++ U' ++ S') → RowE w1 g n cap (P' ++ V2 ++ V1 ++ (U' ++ S')) := fun w1 h => by simpa using h
    have hltI : (i : Int) < j := by omega
    have hneI : ((i : Int) == j) = false := by simp; omega
    obtain ⟨Hrow, Hrow1, Hc, Hg, Hg', Hk, Hu, Hv, Hp⟩ := hid9 hrow hrow1 hc hg hg' hk hu hv hp; clear hp hv hu hk hg' hg hc hrow1 hrow; obtain ⟨Hv1, Hr'⟩ := hid2 hv1 hr'; clear hr' hv1
    go_wp2_with (go_at_call 122; (with_reducible refine Hc.out.mono ?_); rintro e w1 ⟨rfl, hr1, hk1⟩; have Hr1 := Lib.hid hr1; have Hk1 := Lib.hid hk1; clear hr1 hk1)
    go_roundw
    case rel => exact ⟨i, j - i, P', V2, V1, U' ++ S', rfl, by go_num, Hv1.out, by have := Hv.out; have := Hv1.out; omega, Hp.out, hi, by omega, by omega, Hg'.out, Hr'.out _ Hr1.out, Hk.out.same Hk1.out⟩
    case measure => simp [intOf]; omega
end Go.Proofs.Ythcmpcekmkioaaa
namespace Go.Proofs.Ythcmpcekmkioaaa
open Go.RowKit
structure CmpBy (f : Nat) (ok : Ev → Prop) : Prop where
 eg : ∀ args w, (callFunc f args).run Try.prog w = .ok (.enter f args) w
 call : ∀ x y W, ok x → ok y → Calls Try.prog f #[x.agg, y.agg] W fun e w' => ∃ z, e = .returned (.int .i64 z) ∧ (z < 0 ↔ x.day < y.day) ∧ Keeps (fun _ => False) W w'
def twoS (g p q : Nat) (a0 a1 a2 a3 a4 b0 b1 b2 b3 b4 : Int) (w : World) : Prop :=
 (w.cell? ⟨g, p * 5, none⟩ = some (.int .i64 a0) ∧ w.cell? ⟨g, p * 5 + 1, none⟩ = some (.int .i64 a1) ∧ w.cell? ⟨g, p * 5 + 2, none⟩ = some (.int .i64 a2) ∧ w.cell? ⟨g, p * 5 + 3, none⟩ = some (.int .i64 a3) ∧ w.cell? ⟨g, p * 5 + 4, none⟩ = some (.int .i64 a4)) ∧
 (w.cell? ⟨g, q * 5, none⟩ = some (.int .i64 b0) ∧ w.cell? ⟨g, q * 5 + 1, none⟩ = some (.int .i64 b1) ∧ w.cell? ⟨g, q * 5 + 2, none⟩ = some (.int .i64 b2) ∧ w.cell? ⟨g, q * 5 + 3, none⟩ = some (.int .i64 b3) ∧ w.cell? ⟨g, q * 5 + 4, none⟩ = some (.int .i64 b4))
theorem twoS.of {w : World} {g n cap p q : Nat} {X : List Ev} (h : RowE w g n cap X) {a0 a1 a2 a3 a4 b0 b1 b2 b3 b4 : Int} (hp : X[p]? = some ⟨a0, a1, a2, a3, a4⟩) (hq : X[q]? = some ⟨b0, b1, b2, b3, b4⟩) : twoS g p q a0 a1 a2 a3 a4 b0 b1 b2 b3 b4 w := ⟨h.cells hp, h.cells hq⟩
theorem twoS.keep {w w' : World} {S : Nat → Prop} {g p q : Nat} {a0 a1 a2 a3 a4 b0 b1 b2 b3 b4 : Int} (h : twoS g p q a0 a1 a2 a3 a4 b0 b1 b2 b3 b4 w) (hk : Keeps S w w') (hS : ¬ S g) : twoS g p q a0 a1 a2 a3 a4 b0 b1 b2 b3 b4 w' := by
 obtain ⟨⟨h0, h1, h2, h3, h4⟩, k0, k1, k2, k3, k4⟩ := h
 have hl : g < w.heap.size := cell_lt h0
 have c := fun o => hk.cell (p := ⟨g, o, none⟩) hl hS
 unfold twoS
 exact ⟨⟨(c _).trans h0, (c _).trans h1, (c _).trans h2, (c _).trans h3, (c _).trans h4⟩, (c _).trans k0, (c _).trans k1, (c _).trans k2, (c _).trans k3, (c _).trans k4⟩
theorem inssEv_step {X : List Ev} {a i j : Nat} (h : ∀ s t, a ≤ s → s < t → t ≤ i → t ≠ j + 1 → dy X s ≤ dy X t) (haj : a ≤ j) (hl : j + 1 < X.length) (hji : j + 1 ≤ i) (hd : dy X (j + 1) < dy X j) :
  ∀ s t, a ≤ s → s < t → t ≤ i → t ≠ j → dy (swp X j (j + 1)) s ≤ dy (swp X j (j + 1)) t := by
 have hg := fun t => swp_get (X := X) (i := j) (j := j + 1) (by omega) hl t
 have e1 : dy (swp X j (j + 1)) (j + 1) = dy X j := dy_congr (by rw [hg, if_pos rfl])
 have e2 : dy (swp X j (j + 1)) j = dy X (j + 1) := dy_congr (by rw [hg, if_neg (by omega), if_pos rfl])
 have e3 : ∀ t, t ≠ j → t ≠ j + 1 → dy (swp X j (j + 1)) t = dy X t := fun t h1 h2 => dy_congr (by rw [hg, if_neg h2, if_neg h1])
 intro s t h1 h2 h3 h4
 by_cases ht : t = j + 1
 ·subst ht
  rw [e1]
  by_cases hs : s = j
  ·subst hs; rw [e2]; omega
  ·rw [e3 s hs (by omega)]; exact h s j h1 (by omega) (by omega) (by omega)
 ·rw [e3 t h4 ht]
  by_cases hs : s = j
  ·subst hs; rw [e2]; exact h _ t (by omega) (by omega) h3 ht
  ·by_cases hs2 : s = j + 1
   ·subst hs2; rw [e1]; exact h j t (by omega) (by omega) h3 ht
   ·rw [e3 s hs hs2]; exact h s t h1 h2 h3 ht
set_option maxRecDepth 100000 in
set_option maxHeartbeats 3200000 in
theorem inssEv_any (f : Nat) (ok : Ev → Prop) (hc : CmpBy f ok) (a b n cap g : Nat) (L : List Ev) (w : World) (h : RowE w g n cap L) (hab : a ≤ b) (hbn : b ≤ n) (hok : ∀ x ∈ L, ok x) (hn : n ≤ 1000000) :
  Calls Try.prog 86 #[.slice (some ⟨g, 0, none⟩) n cap, .int .i64 a, .int .i64 b, .func (.func f) #[] #[]] w fun e w' => e = .returned (.tuple #[]) ∧ ∃ X, Turned L X a b ∧ Upto X a b ∧ RowE w' g n cap X ∧ Keeps (fun i => i = g) w w' := by
 have eg := hc.eg
 have hcall := hc.call
 simp only [Ev.agg] at hcall
 obtain ⟨H, Hok, Hc, Hcall⟩ := hid4 h hok hc hcall; clear hcall hc hok h
 go_enter Try.func86, Try.ntmps86
 go_wp2
 go_loopw [8] (fun x wx => ∃ (i : Nat) (X : List Ev), x = .int .i64 (i : Nat) ∧ a < i ∧ i ≤ b + 1 ∧ Turned L X a b ∧ Upto X a i ∧ RowE wx g n cap X ∧ Keeps (fun i => i = g) w wx) (fun x _ => b + 1 - (intOf x).toNat)
 case atStart => exact ⟨a + 1, L, by go_num, by omega, by omega, Turned.refl _ _ _, Upto.one (by omega), H.out, Keeps.refl _ _⟩
 case round =>
  obtain ⟨i, X, rfl, hai, hib, ht, hu, hrow, hk⟩ := hrel
  by_cases hlt : i < b
  ·have hltI : (i : Int) < (b : Int) := by omega
   obtain ⟨W1, hW1⟩ : ∃ x, x = wr := ⟨_, rfl⟩; subst hW1
   have hin : ∀ s t, a ≤ s → s < t → t ≤ i → t ≠ i → dy X s ≤ dy X t := fun s t h1 h2 h3 h4 => hu s t h1 h2 (by omega)
   obtain ⟨Ht, Hu, Hrow, Hk, Hin⟩ := hid5 ht hu hrow hk hin; clear hin hk hrow hu ht
   go_wp2
   go_loopw [9] (fun x wx => ∃ (j : Nat) (Y : List Ev), x = .int .i64 (j : Nat) ∧ a ≤ j ∧ j ≤ i ∧ Turned L Y a b ∧ (∀ s t, a ≤ s → s < t → t ≤ i → t ≠ j → dy Y s ≤ dy Y t) ∧ RowE wx g n cap Y ∧ Keeps (fun i => i = g) w wx) (fun x _ => (intOf x).toNat)
   case atStart => exact ⟨i, X, rfl, by omega, Nat.le_refl _, Ht.out, Hin.out, Hrow.out, Hk.out⟩
   case round =>
    obtain ⟨j, Y, rfl, haj, hji, ht, hin, hrow, hk⟩ := hrel
    have hYn := hrow.2
    by_cases hja : a < j
    ·obtain ⟨p, rfl⟩ : ∃ p, j = p + 1 := ⟨j - 1, by omega⟩
     obtain ⟨⟨x0, x1, x2, x3, x4⟩, hx⟩ := get_some (L := Y) (k := p + 1) (by omega)
     obtain ⟨⟨y0, y1, y2, y3, y4⟩, hy⟩ := get_some (L := Y) (k := p) (by omega)
     have okx : ok _ := Hok.out _ (ht.alike.mem (List.mem_of_getElem? hx))
     have oky : ok _ := Hok.out _ (ht.alike.mem (List.mem_of_getElem? hy))
     have hS := twoS.of (hrow.keep (Keeps.drew _)) hx hy
     have hxd := dy_of hx
     have hyd := dy_of hy
     simp only at hxd hyd
     have q1 : IntKind.i64.wrap (((p + 1 : Nat) : Int) - 1) = (p : Int) := by rw [show ((p + 1 : Nat) : Int) - 1 = (p : Int) by omega]; exact IntWalk.i64_in _ ⟨by omega, by omega⟩
     have q2 : (a : Int) < ((p + 1 : Nat) : Int) := by omega
     have q3 : (p : Int) < (n : Int) := by omega
     have p0 : (0 : Int) ≤ (p : Int) + 1 := by omega
     have e0 : ((p : Int) + 1).toNat = p + 1 := by omega
     have q9 : IntKind.i64.wrap (p : Int) = (p : Int) := IntWalk.i64_in _ ⟨by omega, by omega⟩
     have q6 : (a : Int) < (p : Int) + 1 := by omega
     have q7 : (p : Int) + 1 < (n : Int) := by omega
     have q8 : IntKind.i64.wrap ((p : Int) + 1 - 1) = (p : Int) := by rw [show (p : Int) + 1 - 1 = (p : Int) by omega]; exact IntWalk.i64_in _ ⟨by omega, by omega⟩
     have q5 : ((p + 1 : Nat) : Int) < (n : Int) := by omega
     obtain ⟨Ht, Hin, Hrow, Hk, Hx, Hy, Okx, Oky, HS⟩ := hid9 ht hin hrow hk hx hy okx oky hS; clear hS oky okx hy hx hk hrow hin ht; obtain ⟨Hxd, Hyd⟩ := hid2 hxd hyd; clear hyd hxd
     have hcl := fun W => Hcall.out ⟨x0, x1, x2, x3, x4⟩ ⟨y0, y1, y2, y3, y4⟩ W Okx.out Oky.out
     simp only at hcl
     have Hcl := Lib.hid hcl; clear hcl
     by_cases hd : x1 < y1
     ·go_wp2_with fail
      refine wp_region_mixw (twoS g (p + 1) p x0 x1 x2 x3 x4 y0 y1 y2 y3 y4) (.take 0 (.take 1 (.take 2 (.take 3 (.take 4 (.take 5 (.take 6 (.take 7 (.take 8 (.take 9 (.take 10 (.take 11 (.take 12 (.take 13 (.move 14 (.take 15 (.take 16 .done))))))))))))))))) (by kernel_rfl) (by kernel_rfl) ?_ ?_
      ·exact HS.out
      intro w1 hs1 hk1
      repeat (first
       | (refine mix_skip rfl (by rfl) ?_; try simp only [Act.put, List.setIfInBounds_toArray, List.set_cons_zero, List.set_cons_succ])
       | (refine mix_skipm rfl (by rfl) ?_; try simp only [Act.put, List.setIfInBounds_toArray, List.set_cons_zero, List.set_cons_succ])
       | (refine mix_take (v := ?_) rfl (by rfl) ?_ ?_; rotate_left; (· intro w' hSw; unfold twoS at hSw; go_simp; (try with_reducible rfl)); rotate_right; try simp only [Act.put, List.setIfInBounds_toArray, List.set_cons_zero, List.set_cons_succ]))
      refine mix_move rfl (fun K hK => ?_)
      go_simp
      go_at_fn f
      ((with_reducible refine (Hcl.out w1).mono ?_); rintro e w2 ⟨z, rfl, hz, hk2⟩; dsimp only)
      have hz' : z < 0 := hz.2 hd
      refine hK.out _ _ (by exact hs1.keep hk2 (by simp)) ?_
      clear hK K
      try simp only [Act.put, List.setIfInBounds_toArray, List.set_cons_zero, List.set_cons_succ]
      repeat (first
       | (refine mix_skip rfl (by rfl) ?_; try simp only [Act.put, List.setIfInBounds_toArray, List.set_cons_zero, List.set_cons_succ])
       | (refine mix_skipm rfl (by rfl) ?_; try simp only [Act.put, List.setIfInBounds_toArray, List.set_cons_zero, List.set_cons_succ])
       | (refine mix_take (v := ?_) rfl (by rfl) ?_ ?_; rotate_left; (· intro w' hSw; unfold twoS at hSw; go_simp; (try with_reducible rfl)); rotate_right; try simp only [Act.put, List.setIfInBounds_toArray, List.set_cons_zero, List.set_cons_succ]))
      refine mix_done ?_
      have hrow2 := (Hrow.out.keep hk1).keep hk2
      have hkw := (Hk.out.trans (hk1.mono (by simp))).trans (hk2.mono (by simp))
      clear hs1 hz
      have hstep := inssEv_step Hin.out (by omega) (by omega) (by omega) (by rw [Hxd.out, Hyd.out]; exact hd)
      have htn := Ht.out.trans (swp_turned (X := Y) (i := p) (a := a) (b := b) (by omega) (by omega) (by omega) (by rw [Hxd.out, Hyd.out]; exact hd))
      obtain ⟨c0, c1, c2, c3, c4⟩ := (hrow2).cells Hx.out
      obtain ⟨d0, d1, d2, d3, d4⟩ := (hrow2).cells Hy.out
      have fa0 : (w2).frozen? ⟨g, (p + 1) * 5, none⟩ = false := (hrow2).free _
      have fa1 : (w2).frozen? ⟨g, (p + 1) * 5 + 1, none⟩ = false := (hrow2).free _
      have fa2 : (w2).frozen? ⟨g, (p + 1) * 5 + 2, none⟩ = false := (hrow2).free _
      have fa3 : (w2).frozen? ⟨g, (p + 1) * 5 + 3, none⟩ = false := (hrow2).free _
      have fa4 : (w2).frozen? ⟨g, (p + 1) * 5 + 4, none⟩ = false := (hrow2).free _
      have fb0 : (w2).frozen? ⟨g, (p) * 5, none⟩ = false := (hrow2).free _
      have fb1 : (w2).frozen? ⟨g, (p) * 5 + 1, none⟩ = false := (hrow2).free _
      have fb2 : (w2).frozen? ⟨g, (p) * 5 + 2, none⟩ = false := (hrow2).free _
      have fb3 : (w2).frozen? ⟨g, (p) * 5 + 3, none⟩ = false := (hrow2).free _
      have fb4 : (w2).frozen? ⟨g, (p) * 5 + 4, none⟩ = false := (hrow2).free _
      have hrow3 := (hrow2.swp Hx.out Hy.out).keep (Keeps.drew _)
      rw [swp_comm Y p (by omega)] at hrow3
      have hk3 := hkw.same (((putE_keeps w2 g (p + 1) y0 y1 y2 y3 y4).same (putE_keeps _ g p x0 x1 x2 x3 x4)).same (Keeps.drew _))
      unfold putE at hrow3 hk3
      obtain ⟨Hk1, Hk2, Hrow2, Hkw, Hrow3, Hk3, Hstep, Htn⟩ := hid8 hk1 hk2 hrow2 hkw hrow3 hk3 hstep htn; clear htn hstep hk3 hrow3 hkw hrow2 hk2 hk1
      clear hz'
      go_wp2_with fail
      go_region
      all_goals go_wp2_with fail
      all_goals go_roundw
      case rel => exact ⟨p, _, by go_num, by omega, by omega, Htn.out, Hstep.out, Hrow3.out, Hk3.out⟩
      case measure => simp [intOf]
     ·go_wp2_with fail
      refine wp_region_mixw (twoS g (p + 1) p x0 x1 x2 x3 x4 y0 y1 y2 y3 y4) (.take 0 (.take 1 (.take 2 (.take 3 (.take 4 (.take 5 (.take 6 (.take 7 (.take 8 (.take 9 (.take 10 (.take 11 (.take 12 (.take 13 (.move 14 (.take 15 (.take 16 .done))))))))))))))))) (by kernel_rfl) (by kernel_rfl) ?_ ?_
      ·exact HS.out
      intro w1 hs1 hk1
      repeat (first
       | (refine mix_skip rfl (by rfl) ?_; try simp only [Act.put, List.setIfInBounds_toArray, List.set_cons_zero, List.set_cons_succ])
       | (refine mix_skipm rfl (by rfl) ?_; try simp only [Act.put, List.setIfInBounds_toArray, List.set_cons_zero, List.set_cons_succ])
       | (refine mix_take (v := ?_) rfl (by rfl) ?_ ?_; rotate_left; (· intro w' hSw; unfold twoS at hSw; go_simp; (try with_reducible rfl)); rotate_right; try simp only [Act.put, List.setIfInBounds_toArray, List.set_cons_zero, List.set_cons_succ]))
      refine mix_move rfl (fun K hK => ?_)
      go_simp
      go_at_fn f
      ((with_reducible refine (Hcl.out w1).mono ?_); rintro e w2 ⟨z, rfl, hz, hk2⟩; dsimp only)
      have hz' : ¬ z < 0 := fun h => by have := hz.1 h; omega
      refine hK.out _ _ (by exact hs1.keep hk2 (by simp)) ?_
      clear hK K
      try simp only [Act.put, List.setIfInBounds_toArray, List.set_cons_zero, List.set_cons_succ]
      repeat (first
       | (refine mix_skip rfl (by rfl) ?_; try simp only [Act.put, List.setIfInBounds_toArray, List.set_cons_zero, List.set_cons_succ])
       | (refine mix_skipm rfl (by rfl) ?_; try simp only [Act.put, List.setIfInBounds_toArray, List.set_cons_zero, List.set_cons_succ])
       | (refine mix_take (v := ?_) rfl (by rfl) ?_ ?_; rotate_left; (· intro w' hSw; unfold twoS at hSw; go_simp; (try with_reducible rfl)); rotate_right; try simp only [Act.put, List.setIfInBounds_toArray, List.set_cons_zero, List.set_cons_succ]))
      refine mix_done ?_
      have hrow2 := (Hrow.out.keep hk1).keep hk2
      have hkw := (Hk.out.trans (hk1.mono (by simp))).trans (hk2.mono (by simp))
      have hup : Upto Y a (i + 1) := fun s t h1 h2 h3 => by
       by_cases hte : t = p + 1
       ·subst hte
        rcases Nat.lt_or_ge s p with h4 | h4
        ·have e1 := Hin.out s p h1 h4 (by omega) (by omega)
         rw [Hxd.out]; rw [Hyd.out] at e1; omega
        ·obtain rfl : s = p := by omega
         rw [Hxd.out, Hyd.out]; omega
       ·exact Hin.out s t h1 h2 (by omega) hte
      clear hs1 hz
      obtain ⟨Hk1, Hk2, Hrow2, Hkw, Hup, Hz'⟩ := hid6 hk1 hk2 hrow2 hkw hup hz'; clear hz' hup hkw hrow2 hk2 hk1
      go_wp2
      go_roundw
      case rel => exact ⟨i + 1, Y, by go_num, by omega, by omega, Ht.out, Hup.out, Hrow2.out, Hkw.out⟩
      case measure => simp [intOf]; omega
    ·obtain rfl : j = a := by omega
     have hup : Upto Y j (i + 1) := fun s t h1 h2 h3 => hin s t h1 h2 (by omega) (by omega)
     have hrow2 := hrow.keep (Keeps.drew wr)
     have hkw := hk.same (Keeps.drew wr)
     obtain ⟨Ht, Hin, Hrow, Hk, Hup, Hrow2, Hkw⟩ := hid7 ht hin hrow hk hup hrow2 hkw; clear hkw hrow2 hup hk hrow hin ht
     go_wp2_with fail
     go_region
     all_goals go_wp2
     all_goals go_roundw
     case rel => exact ⟨i + 1, Y, by go_num, by omega, by omega, Ht.out, Hup.out, Hrow2.out, Hkw.out⟩
     case measure => simp [intOf]; omega
  ·go_wp2
   go_end0
   exact ⟨rfl, X, ht, hu.sub (Nat.le_refl _) (by omega), hrow, hk⟩
end Go.Proofs.Ythcmpcekmkioaaa
namespace Go.Proofs.Ythcmpcekmkioaaa
open Go.RowKit
def MergePost (L : List Ev) (g n cap a b : Nat) (w : World) (e : Ending) (w' : World) : Prop := e = .returned (.tuple #[]) ∧ ∃ X, Turned L X a b ∧ Upto X a b ∧ RowE w' g n cap X ∧ Keeps (fun i => i = g) w w'
def MergeAt (f : Nat) (ok : Ev → Prop) (d : Nat) : Prop := ∀ (a m b n cap g : Nat) (L : List Ev) (w : World), b - a ≤ d → RowE w g n cap L → a < m → m < b → b ≤ n → (∀ x ∈ L, ok x) → n ≤ 1000000 → Upto L a m → Upto L m b →
  Calls Try.prog 87 #[.slice (some ⟨g, 0, none⟩) n cap, .int .i64 a, .int .i64 m, .int .i64 b, .func (.func f) #[] #[]] w (MergePost L g n cap a b w)
theorem left_step {L Y : List Ev} {a k : Nat} (h1 : dy Y k = dy L a) (h2 : ∀ t, a ≤ t → t < k → dy Y t = dy L (t + 1)) (h3 : ∀ t, k < t → Y[t]? = L[t]?) (hk : a ≤ k) (hl : k + 1 < Y.length) :
  dy (swp Y k (k + 1)) (k + 1) = dy L a ∧ (∀ t, a ≤ t → t < k + 1 → dy (swp Y k (k + 1)) t = dy L (t + 1)) ∧ (∀ t, k + 1 < t → (swp Y k (k + 1))[t]? = L[t]?) := by
 have hg := fun t => swp_get (X := Y) (i := k) (j := k + 1) (by omega) hl t
 refine ⟨(dy_congr (by rw [hg, if_pos rfl])).trans h1, fun t h4 h5 => ?_, fun t h4 => ?_⟩
 ·by_cases ht : t = k
  ·subst ht; exact dy_congr (by rw [hg, if_neg (by omega), if_pos rfl]; exact h3 _ (by omega))
  ·exact (dy_congr (by rw [hg, if_neg (by omega), if_neg ht])).trans (h2 t h4 (by omega))
 ·rw [hg, if_neg (by omega), if_neg (by omega)]; exact h3 t (by omega)
theorem left_done {L Y : List Ev} {a b i : Nat} (h1 : dy Y (i - 1) = dy L a) (h2 : ∀ t, a ≤ t → t < i - 1 → dy Y t = dy L (t + 1)) (h3 : ∀ t, i - 1 < t → Y[t]? = L[t]?) (hs : Upto L (a + 1) b) (hbs : Bs (fun t => dy L a ≤ dy L t) (a + 1) b i i) : Upto Y a b := by
 have hlo := hbs.lo'
 have hhi := hbs.hi'
 have e3 : ∀ t, i - 1 < t → dy Y t = dy L t := fun t ht => dy_congr (h3 t ht)
 intro s t h4 h5 h6
 rcases Nat.lt_trichotomy t (i - 1) with h | h | h
 ·rw [h2 s h4 (by omega), h2 t (by omega) h]; exact hs _ _ (by omega) (by omega) (by omega)
 ·subst h
  have := hbs.below (s + 1) (by omega) (by omega)
  rw [h2 s h4 h5, h1]; omega
 ·rw [e3 t h]
  have := hbs.above t (by omega) h6
  rcases Nat.lt_trichotomy s (i - 1) with h' | h' | h'
  ·rw [h2 s h4 h']; exact hs _ _ (by omega) (by omega) h6
  ·subst h'; rw [h1]; exact this
  ·rw [e3 s h']; exact hs _ _ (by omega) h5 h6
set_option maxRecDepth 100000 in
set_option maxHeartbeats 3200000 in
theorem merge_left (f : Nat) (ok : Ev → Prop) (hc : CmpBy f ok) (a b n cap g : Nat) (L : List Ev) (w : World) (h : RowE w g n cap L) (hmb : a + 1 < b) (hbn : b ≤ n) (hok : ∀ x ∈ L, ok x) (hn : n ≤ 1000000) (h1 : Upto L (a + 1) b) :
  Calls Try.prog 87 #[.slice (some ⟨g, 0, none⟩) n cap, .int .i64 a, .int .i64 (a + 1 : Nat), .int .i64 b, .func (.func f) #[] #[]] w (MergePost L g n cap a b w) := by
 have eg := hc.eg
 have hcall := hc.call
 simp only [Ev.agg] at hcall
 have q0 : ((a + 1 : Nat) : Int) - (a : Int) = 1 := by omega
 obtain ⟨m, hm⟩ : ∃ m, a + 1 = m := ⟨_, rfl⟩
 rw [hm] at h1 q0 hmb ⊢
 have hmI : (m : Int) = (a : Int) + 1 := by omega
 have hln := h.2
 obtain ⟨H, Hok, Hc, Hcall, H1, Hm, HmI⟩ := hid7 h hok hc hcall h1 hm hmI; clear hmI hm h1 hcall hc hok h
 go_enter Try.func87, Try.ntmps87
 go_wp2
 go_loopw [10, 11] (fun x y wx => ∃ (i j : Nat), x = .int .i64 (i : Nat) ∧ y = .int .i64 (j : Nat) ∧ Bs (fun t => dy L a ≤ dy L t) m b i j ∧ RowE wx g n cap L ∧ Keeps (fun i => i = g) w wx) (fun x y _ => (intOf y).toNat - (intOf x).toNat)
 case atStart => exact ⟨m, b, rfl, rfl, Bs.start (by omega), H.out, Keeps.refl _ _⟩
 case round =>
  obtain ⟨i, j, rfl, rfl, hbs, hrow, hk⟩ := hrel
  by_cases hlt : i < j
  ·have hltI : (i : Int) < (j : Int) := by omega
   have hbhi := hbs.hi'
   have hblo := hbs.lo'
   obtain ⟨h, hh⟩ : ∃ h : Nat, ((i : Int) + j) / 2 = h := ⟨(i + j) / 2, by omega⟩
   have hih : i ≤ h := by omega
   have hhj : h < j := by omega
   obtain ⟨⟨x0, x1, x2, x3, x4⟩, hx⟩ := get_some (L := L) (k := h) (by omega)
   obtain ⟨⟨y0, y1, y2, y3, y4⟩, hy⟩ := get_some (L := L) (k := a) (by omega)
   have okx : ok _ := Hok.out _ (List.mem_of_getElem? hx)
   have oky : ok _ := Hok.out _ (List.mem_of_getElem? hy)
   have hS := twoS.of (hrow.keep (Keeps.drew _)) hx hy
   have hxd := dy_of hx
   have hyd := dy_of hy
   simp only at hxd hyd
   have q2 : (h : Int) < (n : Int) := by omega
   have q3 : (a : Int) < (n : Int) := by omega
   have hmono : ∀ s t, m ≤ s → s ≤ t → t < b → dy L a ≤ dy L s → dy L a ≤ dy L t := fun s t h1 h2 h3 h4 => by have := H1.out.le h1 h2 h3; omega
   have hcl := fun W => Hcall.out ⟨x0, x1, x2, x3, x4⟩ ⟨y0, y1, y2, y3, y4⟩ W okx oky
   simp only at hcl
   obtain ⟨Hbs, Hrow, Hk, Hx, Hy, Okx, Oky, HS, Hxd⟩ := hid9 hbs hrow hk hx hy okx oky hS hxd; clear hxd hS oky okx hy hx hk hrow hbs; obtain ⟨Hyd, Hmono, Hcl⟩ := hid3 hyd hmono hcl; clear hcl hmono hyd
   go_wp2_with fail
   try rw [hh]
   clear hh
   by_cases hd : x1 < y1
   ·skip
    refine wp_region_mixw (twoS g h a x0 x1 x2 x3 x4 y0 y1 y2 y3 y4) (.take 0 (.take 1 (.take 2 (.take 3 (.take 4 (.take 5 (.take 6 (.take 7 (.take 8 (.move 9 (.take 10 .done))))))))))) (by kernel_rfl) (by kernel_rfl) ?_ ?_
    ·exact HS.out
    intro w1 hs1 hk1
    repeat (first
     | (refine mix_skip rfl (by rfl) ?_; try simp only [Act.put, List.setIfInBounds_toArray, List.set_cons_zero, List.set_cons_succ])
     | (refine mix_skipm rfl (by rfl) ?_; try simp only [Act.put, List.setIfInBounds_toArray, List.set_cons_zero, List.set_cons_succ])
     | (refine mix_take (v := ?_) rfl (by rfl) ?_ ?_; rotate_left; (· intro w' hSw; unfold twoS at hSw; go_simp; (try with_reducible rfl)); rotate_right; try simp only [Act.put, List.setIfInBounds_toArray, List.set_cons_zero, List.set_cons_succ]))
    refine mix_move rfl (fun K hK => ?_)
    go_simp
    go_at_fn f
    ((with_reducible refine (Hcl.out w1).mono ?_); rintro e w2 ⟨z, rfl, hz, hk2⟩; dsimp only)
    have hz' : z < 0 := hz.2 hd
    refine hK.out _ _ (by exact hs1.keep hk2 (by simp)) ?_
    clear hK K
    try simp only [Act.put, List.setIfInBounds_toArray, List.set_cons_zero, List.set_cons_succ]
    repeat (first
     | (refine mix_skip rfl (by rfl) ?_; try simp only [Act.put, List.setIfInBounds_toArray, List.set_cons_zero, List.set_cons_succ])
     | (refine mix_skipm rfl (by rfl) ?_; try simp only [Act.put, List.setIfInBounds_toArray, List.set_cons_zero, List.set_cons_succ])
     | (refine mix_take (v := ?_) rfl (by rfl) ?_ ?_; rotate_left; (· intro w' hSw; unfold twoS at hSw; go_simp; (try with_reducible rfl)); rotate_right; try simp only [Act.put, List.setIfInBounds_toArray, List.set_cons_zero, List.set_cons_succ]))
    refine mix_done ?_
    have hrow2 := (Hrow.out.keep hk1).keep hk2
    have hkw := (Hk.out.trans (hk1.mono (by simp))).trans (hk2.mono (by simp))
    have hb2 := Hbs.out.up Hmono.out hih hhj (by rw [Hxd.out, Hyd.out]; omega)
    clear hs1 hz
    obtain ⟨Hk1, Hk2, Hrow2, Hkw, Hb2⟩ := hid5 hk1 hk2 hrow2 hkw hb2; clear hb2 hkw hrow2 hk2 hk1
    go_wp2_with fail
    go_roundw
    case rel => exact ⟨h + 1, j, by go_num, rfl, Hb2.out, Hrow2.out, Hkw.out⟩
    case measure => simp [intOf]; omega
   ·skip
    refine wp_region_mixw (twoS g h a x0 x1 x2 x3 x4 y0 y1 y2 y3 y4) (.take 0 (.take 1 (.take 2 (.take 3 (.take 4 (.take 5 (.take 6 (.take 7 (.take 8 (.move 9 (.take 10 .done))))))))))) (by kernel_rfl) (by kernel_rfl) ?_ ?_
    ·exact HS.out
    intro w1 hs1 hk1
    repeat (first
     | (refine mix_skip rfl (by rfl) ?_; try simp only [Act.put, List.setIfInBounds_toArray, List.set_cons_zero, List.set_cons_succ])
     | (refine mix_skipm rfl (by rfl) ?_; try simp only [Act.put, List.setIfInBounds_toArray, List.set_cons_zero, List.set_cons_succ])
     | (refine mix_take (v := ?_) rfl (by rfl) ?_ ?_; rotate_left; (· intro w' hSw; unfold twoS at hSw; go_simp; (try with_reducible rfl)); rotate_right; try simp only [Act.put, List.setIfInBounds_toArray, List.set_cons_zero, List.set_cons_succ]))
    refine mix_move rfl (fun K hK => ?_)
    go_simp
    go_at_fn f
    ((with_reducible refine (Hcl.out w1).mono ?_); rintro e w2 ⟨z, rfl, hz, hk2⟩; dsimp only)
    have hz' : ¬ z < 0 := fun h => by have := hz.1 h; omega
    refine hK.out _ _ (by exact hs1.keep hk2 (by simp)) ?_
    clear hK K
    try simp only [Act.put, List.setIfInBounds_toArray, List.set_cons_zero, List.set_cons_succ]
    repeat (first
     | (refine mix_skip rfl (by rfl) ?_; try simp only [Act.put, List.setIfInBounds_toArray, List.set_cons_zero, List.set_cons_succ])
     | (refine mix_skipm rfl (by rfl) ?_; try simp only [Act.put, List.setIfInBounds_toArray, List.set_cons_zero, List.set_cons_succ])
     | (refine mix_take (v := ?_) rfl (by rfl) ?_ ?_; rotate_left; (· intro w' hSw; unfold twoS at hSw; go_simp; (try with_reducible rfl)); rotate_right; try simp only [Act.put, List.setIfInBounds_toArray, List.set_cons_zero, List.set_cons_succ]))
    refine mix_done ?_
    have hrow2 := (Hrow.out.keep hk1).keep hk2
    have hkw := (Hk.out.trans (hk1.mono (by simp))).trans (hk2.mono (by simp))
    have hb2 := Hbs.out.down Hmono.out hih hhj (by rw [Hxd.out, Hyd.out]; omega)
    clear hs1 hz
    obtain ⟨Hk1, Hk2, Hrow2, Hkw, Hb2⟩ := hid5 hk1 hk2 hrow2 hkw hb2; clear hb2 hkw hrow2 hk2 hk1
    go_wp2_with fail
    go_roundw
    case rel => exact ⟨i, h, rfl, rfl, Hb2.out, Hrow2.out, Hkw.out⟩
    case measure => simp [intOf]; omega
  ·obtain rfl : j = i := by have := hbs.le; omega
   have hbhi := hbs.hi'
   have hblo := hbs.lo'
   obtain ⟨W1, hW1⟩ : ∃ x, x = wr := ⟨_, rfl⟩; subst hW1
   obtain ⟨Hbs, Hrow, Hk⟩ := hid3 hbs hrow hk; clear hk hrow hbs
   go_wp2
   go_loopw [13] (fun x wx => ∃ (k : Nat) (Y : List Ev), x = .int .i64 (k : Nat) ∧ a ≤ k ∧ k ≤ j - 1 ∧ Turned L Y a b ∧ dy Y k = dy L a ∧ (∀ t, a ≤ t → t < k → dy Y t = dy L (t + 1)) ∧ (∀ t, k < t → Y[t]? = L[t]?) ∧ RowE wx g n cap Y ∧ Keeps (fun i => i = g) w wx) (fun x _ => j - (intOf x).toNat)
   case atStart => exact ⟨a, L, rfl, Nat.le_refl _, by omega, Turned.refl _ _ _, rfl, fun t h1 h2 => by omega, fun _ _ => rfl, Hrow.out, Hk.out⟩
   case round =>
    obtain ⟨k, Y, rfl, hak, hkj, ht, e1, e2, e3, hrow, hk⟩ := hrel
    have hYn := hrow.2
    by_cases hlt : k < j - 1
    ·have hltI : (k : Int) < (j : Int) - 1 := by omega
     obtain ⟨⟨x0, x1, x2, x3, x4⟩, hx⟩ := get_some (L := Y) (k := k) (by omega)
     obtain ⟨⟨y0, y1, y2, y3, y4⟩, hy⟩ := get_some (L := Y) (k := k + 1) (by omega)
     have hbel := Hbs.out.below (k + 1) (by omega) (by omega)
     have hd : dy Y (k + 1) < dy Y k := by rw [e1, dy_congr (e3 (k + 1) (by omega))]; omega
     have hstep := left_step e1 e2 e3 hak (by omega)
     have htn := ht.trans (swp_turned (X := Y) (i := k) (a := a) (b := b) (by omega) (by omega) (by omega) hd)
     obtain ⟨c0, c1, c2, c3, c4⟩ := (hrow).cells hx
     obtain ⟨d0, d1, d2, d3, d4⟩ := (hrow).cells hy
     have fa0 : (wr).frozen? ⟨g, (k) * 5, none⟩ = false := (hrow).free _
     have fa1 : (wr).frozen? ⟨g, (k) * 5 + 1, none⟩ = false := (hrow).free _
     have fa2 : (wr).frozen? ⟨g, (k) * 5 + 2, none⟩ = false := (hrow).free _
     have fa3 : (wr).frozen? ⟨g, (k) * 5 + 3, none⟩ = false := (hrow).free _
     have fa4 : (wr).frozen? ⟨g, (k) * 5 + 4, none⟩ = false := (hrow).free _
     have fb0 : (wr).frozen? ⟨g, (k + 1) * 5, none⟩ = false := (hrow).free _
     have fb1 : (wr).frozen? ⟨g, (k + 1) * 5 + 1, none⟩ = false := (hrow).free _
     have fb2 : (wr).frozen? ⟨g, (k + 1) * 5 + 2, none⟩ = false := (hrow).free _
     have fb3 : (wr).frozen? ⟨g, (k + 1) * 5 + 3, none⟩ = false := (hrow).free _
     have fb4 : (wr).frozen? ⟨g, (k + 1) * 5 + 4, none⟩ = false := (hrow).free _
     have hrow3 := (hrow.swp hx hy).keep (Keeps.drew _)
     have hk3 := hk.same (((putE_keeps wr g k y0 y1 y2 y3 y4).same (putE_keeps _ g (k + 1) x0 x1 x2 x3 x4)).same (Keeps.drew _))
     unfold putE at hrow3 hk3
     have p0 : (0 : Int) ≤ (k : Int) + 1 := by omega
     have p1 : (k : Int) + 1 < (n : Int) := by omega
     have p2 : (k : Int) < (n : Int) := by omega
     have p3 : ((k : Int) + 1).toNat = k + 1 := by omega
     obtain ⟨Hrow, Hk, Hx, Hy, Hbel, Hd, Hstep, Htn, Ht⟩ := hid9 hrow hk hx hy hbel hd hstep htn ht; clear ht htn hstep hd hbel hy hx hk hrow; obtain ⟨E1, E2, E3, Hrow3, Hk3⟩ := hid5 e1 e2 e3 hrow3 hk3; clear hk3 hrow3 e3 e2 e1
     go_wp2_with fail
     go_region
     all_goals go_wp2_with fail
     all_goals go_roundw
     case rel => exact ⟨k + 1, _, by go_num, by omega, by omega, Htn.out, Hstep.out.1, Hstep.out.2.1, Hstep.out.2.2, Hrow3.out, Hk3.out⟩
     case measure => simp [intOf]; omega
    ·obtain rfl : k = j - 1 := by omega
     have hup : Upto Y a b := left_done e1 e2 e3 (by have := H1.out; rwa [← Hm.out] at this) (by have := Hbs.out; rwa [← Hm.out] at this)
     have hltI : ¬ ((j - 1 : Nat) : Int) < (j : Int) - 1 := by omega
     obtain ⟨k, hkk⟩ : ∃ k, j - 1 = k := ⟨_, rfl⟩
     rw [hkk] at hltI ⊢
     obtain ⟨Ht, E1, E2, E3, Hrow, Hk, Hup⟩ := hid7 ht e1 e2 e3 hrow hk hup; clear hup hk hrow e3 e2 e1 ht
     go_wp2
     go_end0
     exact ⟨rfl, Y, Ht.out, Hup.out, Hrow.out, Hk.out⟩
end Go.Proofs.Ythcmpcekmkioaaa
namespace Go.Proofs.Ythcmpcekmkioaaa
open Go.RowKit
theorem right_step {L Y : List Ev} {m k : Nat} (h1 : dy Y (k + 1) = dy L m) (h2 : ∀ t, k + 1 < t → t ≤ m → dy Y t = dy L (t - 1)) (h3 : ∀ t, t < k + 1 → Y[t]? = L[t]?) (hl : k + 1 < Y.length) :
  dy (swp Y k (k + 1)) k = dy L m ∧ (∀ t, k < t → t ≤ m → dy (swp Y k (k + 1)) t = dy L (t - 1)) ∧ (∀ t, t < k → (swp Y k (k + 1))[t]? = L[t]?) := by
 have hg := fun t => swp_get (X := Y) (i := k) (j := k + 1) (by omega) hl t
 refine ⟨(dy_congr (by rw [hg, if_neg (by omega), if_pos rfl])).trans h1, fun t h4 h5 => ?_, fun t h4 => ?_⟩
 ·by_cases ht : t = k + 1
  ·subst ht; exact dy_congr (by rw [hg, if_pos rfl]; exact h3 _ (by omega))
  ·exact (dy_congr (by rw [hg, if_neg ht, if_neg (by omega)])).trans (h2 t (by omega) h5)
 ·rw [hg, if_neg (by omega), if_neg (by omega)]; exact h3 t (by omega)
theorem right_done {L Y : List Ev} {a m i : Nat} (h1 : dy Y i = dy L m) (h2 : ∀ t, i < t → t ≤ m → dy Y t = dy L (t - 1)) (h3 : ∀ t, t < i → Y[t]? = L[t]?) (hs : Upto L a m) (hbs : Bs (fun t => dy L m < dy L t) a m i i) : Upto Y a (m + 1) := by
 have hlo := hbs.lo'
 have hhi := hbs.hi'
 have e3 : ∀ t, t < i → dy Y t = dy L t := fun t ht => dy_congr (h3 t ht)
 intro s t h4 h5 h6
 rcases Nat.lt_trichotomy t i with h | h | h
 ·rw [e3 s (by omega), e3 t h]; exact hs _ _ h4 h5 (by omega)
 ·subst h
  have := hbs.below s h4 h5
  rw [e3 s h5, h1]; omega
 ·rw [h2 t h (by omega)]
  have := hbs.above (t - 1) (by omega) (by omega)
  rcases Nat.lt_trichotomy s i with h' | h' | h'
  ·rw [e3 s h']; exact hs.le h4 (by omega) (by omega)
  ·subst h'; rw [h1]; omega
  ·rw [h2 s h' (by omega)]; exact hs.le (by omega) (by omega) (by omega)
set_option maxRecDepth 100000 in
set_option maxHeartbeats 3200000 in
theorem merge_right (f : Nat) (ok : Ev → Prop) (hc : CmpBy f ok) (a m n cap g : Nat) (L : List Ev) (w : World) (h : RowE w g n cap L) (ham : a + 1 < m) (hbn : m + 1 ≤ n) (hok : ∀ x ∈ L, ok x) (hn : n ≤ 1000000) (h1 : Upto L a m) :
  Calls Try.prog 87 #[.slice (some ⟨g, 0, none⟩) n cap, .int .i64 a, .int .i64 m, .int .i64 (m + 1 : Nat), .func (.func f) #[] #[]] w (MergePost L g n cap a (m + 1) w) := by
 have eg := hc.eg
 have hcall := hc.call
 simp only [Ev.agg] at hcall
 have q0 : (((m : Int) - (a : Int)) == 1) = false := by simp; omega
 have q1 : ((m + 1 : Nat) : Int) - (m : Int) = 1 := by omega
 obtain ⟨b, hm⟩ : ∃ b, m + 1 = b := ⟨_, rfl⟩
 rw [hm] at q1 hbn ⊢
 have hmb : m < b := by omega
 have hln := h.2
 obtain ⟨H, Hok, Hc, Hcall, H1, Hm⟩ := hid6 h hok hc hcall h1 hm; clear hm h1 hcall hc hok h
 go_enter Try.func87, Try.ntmps87
 go_wp2
 go_loopw [14, 15] (fun x y wx => ∃ (i j : Nat), x = .int .i64 (i : Nat) ∧ y = .int .i64 (j : Nat) ∧ Bs (fun t => dy L m < dy L t) a m i j ∧ RowE wx g n cap L ∧ Keeps (fun i => i = g) w wx) (fun x y _ => (intOf y).toNat - (intOf x).toNat)
 case atStart => exact ⟨a, m, rfl, rfl, Bs.start (by omega), H.out, Keeps.refl _ _⟩
 case round =>
  obtain ⟨i, j, rfl, rfl, hbs, hrow, hk⟩ := hrel
  by_cases hlt : i < j
  ·have hltI : (i : Int) < (j : Int) := by omega
   have hbhi := hbs.hi'
   have hblo := hbs.lo'
   obtain ⟨h, hh⟩ : ∃ h : Nat, ((i : Int) + j) / 2 = h := ⟨(i + j) / 2, by omega⟩
   have hih : i ≤ h := by omega
   have hhj : h < j := by omega
   obtain ⟨⟨x0, x1, x2, x3, x4⟩, hx⟩ := get_some (L := L) (k := m) (by omega)
   obtain ⟨⟨y0, y1, y2, y3, y4⟩, hy⟩ := get_some (L := L) (k := h) (by omega)
   have okx : ok _ := Hok.out _ (List.mem_of_getElem? hx)
   have oky : ok _ := Hok.out _ (List.mem_of_getElem? hy)
   have hS := twoS.of (hrow.keep (Keeps.drew _)) hx hy
   have hxd := dy_of hx
   have hyd := dy_of hy
   simp only at hxd hyd
   have q2 : (h : Int) < (n : Int) := by omega
   have q3 : (m : Int) < (n : Int) := by omega
   have hmono : ∀ s t, a ≤ s → s ≤ t → t < m → dy L m < dy L s → dy L m < dy L t := fun s t h1 h2 h3 h4 => by have := H1.out.le h1 h2 h3; omega
   have hcl := fun W => Hcall.out ⟨x0, x1, x2, x3, x4⟩ ⟨y0, y1, y2, y3, y4⟩ W okx oky
   simp only at hcl
   obtain ⟨Hbs, Hrow, Hk, Hx, Hy, Okx, Oky, HS, Hxd⟩ := hid9 hbs hrow hk hx hy okx oky hS hxd; clear hxd hS oky okx hy hx hk hrow hbs; obtain ⟨Hyd, Hmono, Hcl⟩ := hid3 hyd hmono hcl; clear hcl hmono hyd
   go_wp2_with fail
   try rw [hh]
   clear hh
   by_cases hd : x1 < y1
   ·skip
    refine wp_region_mixw (twoS g m h x0 x1 x2 x3 x4 y0 y1 y2 y3 y4) (.take 0 (.take 1 (.take 2 (.take 3 (.take 4 (.take 5 (.take 6 (.take 7 (.take 8 (.move 9 (.take 10 (.take 11 .done)))))))))))) (by kernel_rfl) (by kernel_rfl) ?_ ?_
    ·exact HS.out
    intro w1 hs1 hk1
    repeat (first
     | (refine mix_skip rfl (by rfl) ?_; try simp only [Act.put, List.setIfInBounds_toArray, List.set_cons_zero, List.set_cons_succ])
     | (refine mix_skipm rfl (by rfl) ?_; try simp only [Act.put, List.setIfInBounds_toArray, List.set_cons_zero, List.set_cons_succ])
     | (refine mix_take (v := ?_) rfl (by rfl) ?_ ?_; rotate_left; (· intro w' hSw; unfold twoS at hSw; go_simp; (try with_reducible rfl)); rotate_right; try simp only [Act.put, List.setIfInBounds_toArray, List.set_cons_zero, List.set_cons_succ]))
    refine mix_move rfl (fun K hK => ?_)
    go_simp
    go_at_fn f
    ((with_reducible refine (Hcl.out w1).mono ?_); rintro e w2 ⟨z, rfl, hz, hk2⟩; dsimp only)
    have hz' : z < 0 := hz.2 hd
    refine hK.out _ _ (by exact hs1.keep hk2 (by simp)) ?_
    clear hK K
    try simp only [Act.put, List.setIfInBounds_toArray, List.set_cons_zero, List.set_cons_succ]
    repeat (first
     | (refine mix_skip rfl (by rfl) ?_; try simp only [Act.put, List.setIfInBounds_toArray, List.set_cons_zero, List.set_cons_succ])
     | (refine mix_skipm rfl (by rfl) ?_; try simp only [Act.put, List.setIfInBounds_toArray, List.set_cons_zero, List.set_cons_succ])
     | (refine mix_take (v := ?_) rfl (by rfl) ?_ ?_; rotate_left; (· intro w' hSw; unfold twoS at hSw; go_simp; (try with_reducible rfl)); rotate_right; try simp only [Act.put, List.setIfInBounds_toArray, List.set_cons_zero, List.set_cons_succ]))
    refine mix_done ?_
    have hrow2 := (Hrow.out.keep hk1).keep hk2
    have hkw := (Hk.out.trans (hk1.mono (by simp))).trans (hk2.mono (by simp))
    have hb2 := Hbs.out.down Hmono.out hih hhj (by rw [Hxd.out, Hyd.out]; omega)
    clear hs1 hz
    obtain ⟨Hk1, Hk2, Hrow2, Hkw, Hb2⟩ := hid5 hk1 hk2 hrow2 hkw hb2; clear hb2 hkw hrow2 hk2 hk1
    go_wp2_with fail
    go_roundw
    case rel => exact ⟨i, h, rfl, rfl, Hb2.out, Hrow2.out, Hkw.out⟩
    case measure => simp [intOf]; omega
   ·skip
    refine wp_region_mixw (twoS g m h x0 x1 x2 x3 x4 y0 y1 y2 y3 y4) (.take 0 (.take 1 (.take 2 (.take 3 (.take 4 (.take 5 (.take 6 (.take 7 (.take 8 (.move 9 (.take 10 (.take 11 .done)))))))))))) (by kernel_rfl) (by kernel_rfl) ?_ ?_
    ·exact HS.out
    intro w1 hs1 hk1
    repeat (first
     | (refine mix_skip rfl (by rfl) ?_; try simp only [Act.put, List.setIfInBounds_toArray, List.set_cons_zero, List.set_cons_succ])
     | (refine mix_skipm rfl (by rfl) ?_; try simp only [Act.put, List.setIfInBounds_toArray, List.set_cons_zero, List.set_cons_succ])
     | (refine mix_take (v := ?_) rfl (by rfl) ?_ ?_; rotate_left; (· intro w' hSw; unfold twoS at hSw; go_simp; (try with_reducible rfl)); rotate_right; try simp only [Act.put, List.setIfInBounds_toArray, List.set_cons_zero, List.set_cons_succ]))
    refine mix_move rfl (fun K hK => ?_)
    go_simp
    go_at_fn f
    ((with_reducible refine (Hcl.out w1).mono ?_); rintro e w2 ⟨z, rfl, hz, hk2⟩; dsimp only)
    have hz' : ¬ z < 0 := fun h => by have := hz.1 h; omega
    refine hK.out _ _ (by exact hs1.keep hk2 (by simp)) ?_
    clear hK K
    try simp only [Act.put, List.setIfInBounds_toArray, List.set_cons_zero, List.set_cons_succ]
    repeat (first
     | (refine mix_skip rfl (by rfl) ?_; try simp only [Act.put, List.setIfInBounds_toArray, List.set_cons_zero, List.set_cons_succ])
     | (refine mix_skipm rfl (by rfl) ?_; try simp only [Act.put, List.setIfInBounds_toArray, List.set_cons_zero, List.set_cons_succ])
     | (refine mix_take (v := ?_) rfl (by rfl) ?_ ?_; rotate_left; (· intro w' hSw; unfold twoS at hSw; go_simp; (try with_reducible rfl)); rotate_right; try simp only [Act.put, List.setIfInBounds_toArray, List.set_cons_zero, List.set_cons_succ]))
    refine mix_done ?_
    have hrow2 := (Hrow.out.keep hk1).keep hk2
    have hkw := (Hk.out.trans (hk1.mono (by simp))).trans (hk2.mono (by simp))
    have hb2 := Hbs.out.up Hmono.out hih hhj (by rw [Hxd.out, Hyd.out]; omega)
    clear hs1 hz
    obtain ⟨Hk1, Hk2, Hrow2, Hkw, Hb2⟩ := hid5 hk1 hk2 hrow2 hkw hb2; clear hb2 hkw hrow2 hk2 hk1
    go_wp2_with fail
    go_roundw
    case rel => exact ⟨h + 1, j, by go_num, rfl, Hb2.out, Hrow2.out, Hkw.out⟩
    case measure => simp [intOf]; omega
  ·obtain rfl : j = i := by have := hbs.le; omega
   have hbhi := hbs.hi'
   have hblo := hbs.lo'
   obtain ⟨W1, hW1⟩ : ∃ x, x = wr := ⟨_, rfl⟩; subst hW1
   obtain ⟨Hbs, Hrow, Hk⟩ := hid3 hbs hrow hk; clear hk hrow hbs
   go_wp2
   go_loopw [17] (fun x wx => ∃ (k : Nat) (Y : List Ev), x = .int .i64 (k : Nat) ∧ j ≤ k ∧ k ≤ m ∧ Turned L Y a b ∧ dy Y k = dy L m ∧ (∀ t, k < t → t ≤ m → dy Y t = dy L (t - 1)) ∧ (∀ t, t < k → Y[t]? = L[t]?) ∧ RowE wx g n cap Y ∧ Keeps (fun i => i = g) w wx) (fun x _ => (intOf x).toNat)
   case atStart => exact ⟨m, L, rfl, by omega, Nat.le_refl _, Turned.refl _ _ _, rfl, fun t h1 h2 => by omega, fun _ _ => rfl, Hrow.out, Hk.out⟩
   case round =>
    obtain ⟨k, Y, rfl, hak, hkj, ht, e1, e2, e3, hrow, hk⟩ := hrel
    have hYn := hrow.2
    by_cases hlt : j < k
    ·obtain ⟨p, rfl⟩ : ∃ p, k = p + 1 := ⟨k - 1, by omega⟩
     have hltI : (j : Int) < (p : Int) + 1 := by omega
     obtain ⟨⟨x0, x1, x2, x3, x4⟩, hx⟩ := get_some (L := Y) (k := p + 1) (by omega)
     obtain ⟨⟨y0, y1, y2, y3, y4⟩, hy⟩ := get_some (L := Y) (k := p) (by omega)
     have habv := Hbs.out.above p (by omega) (by omega)
     have hd : dy Y (p + 1) < dy Y p := by rw [e1, dy_congr (e3 p (by omega))]; omega
     have hstep := right_step e1 e2 e3 (by omega)
     have htn := ht.trans (swp_turned (X := Y) (i := p) (a := a) (b := b) (by omega) (by omega) (by omega) hd)
     obtain ⟨c0, c1, c2, c3, c4⟩ := (hrow).cells hx
     obtain ⟨d0, d1, d2, d3, d4⟩ := (hrow).cells hy
     have fa0 : (wr).frozen? ⟨g, (p + 1) * 5, none⟩ = false := (hrow).free _
     have fa1 : (wr).frozen? ⟨g, (p + 1) * 5 + 1, none⟩ = false := (hrow).free _
     have fa2 : (wr).frozen? ⟨g, (p + 1) * 5 + 2, none⟩ = false := (hrow).free _
     have fa3 : (wr).frozen? ⟨g, (p + 1) * 5 + 3, none⟩ = false := (hrow).free _
     have fa4 : (wr).frozen? ⟨g, (p + 1) * 5 + 4, none⟩ = false := (hrow).free _
     have fb0 : (wr).frozen? ⟨g, (p) * 5, none⟩ = false := (hrow).free _
     have fb1 : (wr).frozen? ⟨g, (p) * 5 + 1, none⟩ = false := (hrow).free _
     have fb2 : (wr).frozen? ⟨g, (p) * 5 + 2, none⟩ = false := (hrow).free _
     have fb3 : (wr).frozen? ⟨g, (p) * 5 + 3, none⟩ = false := (hrow).free _
     have fb4 : (wr).frozen? ⟨g, (p) * 5 + 4, none⟩ = false := (hrow).free _
     have hrow3 := (hrow.swp hx hy).keep (Keeps.drew _)
     rw [swp_comm Y p (by omega)] at hrow3
     have hk3 := hk.same (((putE_keeps wr g (p + 1) y0 y1 y2 y3 y4).same (putE_keeps _ g p x0 x1 x2 x3 x4)).same (Keeps.drew _))
     unfold putE at hrow3 hk3
     have p0 : (0 : Int) ≤ (p : Int) + 1 := by omega
     have p1 : (p : Int) + 1 < (n : Int) := by omega
     have p2 : (p : Int) < (n : Int) := by omega
     have p3 : ((p : Int) + 1).toNat = p + 1 := by omega
     have p4 : IntKind.i64.wrap (p : Int) = (p : Int) := IntWalk.i64_in _ ⟨by omega, by omega⟩
     obtain ⟨Hrow, Hk, Hx, Hy, Habv, Hd, Hstep, Htn, Ht⟩ := hid9 hrow hk hx hy habv hd hstep htn ht; clear ht htn hstep hd habv hy hx hk hrow; obtain ⟨E1, E2, E3, Hrow3, Hk3⟩ := hid5 e1 e2 e3 hrow3 hk3; clear hk3 hrow3 e3 e2 e1
     go_wp2_with fail
     go_region
     all_goals go_wp2_with fail
     all_goals go_roundw
     case rel => exact ⟨p, _, by go_num, by omega, by omega, Htn.out, Hstep.out.1, Hstep.out.2.1, Hstep.out.2.2, Hrow3.out, Hk3.out⟩
     case measure => simp [intOf]
    ·obtain rfl : k = j := by omega
     have hup : Upto Y a b := by rw [← Hm.out]; exact right_done e1 e2 e3 H1.out Hbs.out
     obtain ⟨Ht, E1, E2, E3, Hrow, Hk, Hup⟩ := hid7 ht e1 e2 e3 hrow hk hup; clear hup hk hrow e3 e2 e1 ht
     go_wp2
     go_end0
     exact ⟨rfl, Y, Ht.out, Hup.out, Hrow.out, Hk.out⟩
end Go.Proofs.Ythcmpcekmkioaaa
namespace Go.Proofs.Ythcmpcekmkioaaa
open Go.RowKit
structure Sym (L : List Ev) (a m b mid s0 fin : Nat) : Prop where
 al : a ≤ s0
 sm : s0 ≤ m
 mf : m ≤ fin
 fb : fin ≤ b
 smid : s0 ≤ mid
 midf : mid ≤ fin
 sum : s0 + fin = mid + m
 vu : ∀ s t, s0 ≤ s → s < m → m ≤ t → t < fin → dy L t < dy L s
 ab : ∀ s t, a ≤ s → s < s0 → fin ≤ t → t < b → dy L s ≤ dy L t
theorem sym_of {L : List Ev} {a m b mid lo hi s0 : Nat} (h1 : Upto L a m) (h2 : Upto L m b) (ham : a < m) (hmb : m < b) (hmid : mid = (a + b) / 2)
  (hlh : (mid < m ∧ lo + b = mid + m ∧ hi = mid) ∨ (m ≤ mid ∧ lo = a ∧ hi = m)) (hbs : Bs (fun c => dy L (mid + m - 1 - c) < dy L c) lo hi s0 s0) : Sym L a m b mid s0 (mid + m - s0) := by
 have e1 := hbs.lo'
 have e2 := hbs.hi'
 refine ⟨by omega, by omega, by omega, by omega, by omega, by omega, by omega, fun s t h3 h4 h5 h6 => ?_, fun s t h3 h4 h5 h6 => ?_⟩
 ·have := hbs.above s0 (Nat.le_refl _) (by omega)
  have k1 := h1.le (s := s0) (t := s) (by omega) h3 h4
  have k2 := h2.le (s := t) (t := mid + m - 1 - s0) h5 (by omega) (by omega)
  omega
 ·have := hbs.below (s0 - 1) (by omega) (by omega)
  have k1 := h1.le (s := s) (t := s0 - 1) h3 (by omega) (by omega)
  have k2 := h2.le (s := mid + m - 1 - (s0 - 1)) (t := t) (by omega) (by omega) h6
  omega
theorem sym_mono {L : List Ev} {a m b mid lo hi : Nat} (h1 : Upto L a m) (h2 : Upto L m b) (ham : a < m) (hmb : m < b) (hmid : mid = (a + b) / 2)
  (hlh : (mid < m ∧ lo + b = mid + m ∧ hi = mid) ∨ (m ≤ mid ∧ lo = a ∧ hi = m)) : ∀ s t, lo ≤ s → s ≤ t → t < hi → dy L (mid + m - 1 - s) < dy L s → dy L (mid + m - 1 - t) < dy L t := fun s t h3 h4 h5 h6 => by
 have k1 := h1.le (s := s) (t := t) (by omega) h4 (by omega)
 have k2 := h2.le (s := mid + m - 1 - t) (t := mid + m - 1 - s) (by omega) (by omega) (by omega)
 omega
structure Rot (L X : List Ev) (a m b mid s0 fin : Nat) : Prop where
 t : Turned L X a b
 lo : ∀ i, i < s0 → X[i]? = L[i]?
 v : ∀ i, s0 ≤ i → i < mid → dy X i = dy L (i + (m - s0))
 u : ∀ i, mid ≤ i → i < fin → dy X i = dy L (i - (fin - m))
 hi : ∀ i, fin ≤ i → X[i]? = L[i]?
theorem split4 (L : List Ev) {s0 m fin : Nat} (h1 : s0 ≤ m) (h2 : m ≤ fin) (h3 : fin ≤ L.length) : ∃ P U V S, L = P ++ U ++ V ++ S ∧ P.length = s0 ∧ U.length = m - s0 ∧ V.length = fin - m := by
 refine ⟨L.take s0, (L.take m).drop s0, (L.take fin).drop m, L.drop fin, ?_, ?_, ?_, ?_⟩
 ·have e1 : L.take s0 ++ (L.take m).drop s0 = L.take m := by
   conv => rhs; rw [← List.take_append_drop s0 (L.take m)]
   rw [List.take_take, Nat.min_eq_left h1]
  have e2 : L.take m ++ (L.take fin).drop m = L.take fin := by
   conv => rhs; rw [← List.take_append_drop m (L.take fin)]
   rw [List.take_take, Nat.min_eq_left h2]
  rw [e1, e2, List.take_append_drop]
 ·rw [List.length_take]; omega
 ·rw [List.length_drop, List.length_take]; omega
 ·rw [List.length_drop, List.length_take]; omega
theorem rot_of {P U V S : List Ev} {a m b mid s0 fin : Nat} (hs : Sym (P ++ U ++ V ++ S) a m b mid s0 fin) (hP : P.length = s0) (hU : U.length = m - s0) (hV : V.length = fin - m) : Rot (P ++ U ++ V ++ S) (P ++ V ++ U ++ S) a m b mid s0 fin := by
 obtain ⟨k1, k2, k3, k4, k5, k6, k7, hvu, _⟩ := hs
 have gL : ∀ i, (P ++ U ++ V ++ S)[i]? = if i < s0 then P[i]? else if i < m then U[i - s0]? else if i < fin then V[i - m]? else S[i - fin]? := fun i => by
  simp only [List.getElem?_append, List.length_append, hP, hU, hV]
  repeat' split
  all_goals first | (exfalso; omega) | rfl | (congr 1; omega)
 have gX : ∀ i, (P ++ V ++ U ++ S)[i]? = if i < s0 then P[i]? else if i < mid then V[i - s0]? else if i < fin then U[i - mid]? else S[i - fin]? := fun i => by
  simp only [List.getElem?_append, List.length_append, hP, hU, hV]
  repeat' split
  all_goals first | (exfalso; omega) | rfl | (congr 1; omega)
 refine ⟨⟨by simp only [List.length_append]; omega, fun i hi => ?_, ?_⟩, fun i hi => ?_, fun i h1 h2 => ?_, fun i h1 h2 => ?_, fun i hi => ?_⟩
 ·rw [gL, gX]
  rcases hi with h | h
  ·rw [if_pos (by omega), if_pos (by omega)]
  ·rw [if_neg (by omega), if_neg (by omega), if_neg (by omega), if_neg (by omega), if_neg (by omega), if_neg (by omega)]
 ·rw [List.append_assoc P V U, List.append_assoc P U V]
  refine Alike.app (Alike.app (Alike.refl _) (Alike.turn fun u hu v hv => ?_)) (Alike.refl _)
  obtain ⟨i, hi, he⟩ := List.getElem_of_mem hu
  obtain ⟨j, hj, he'⟩ := List.getElem_of_mem hv
  have h1 := hvu (s0 + i) (m + j) (by omega) (by omega) (by omega) (by omega)
  rwa [dy_of (x := v) (by rw [gL, if_neg (by omega), if_neg (by omega), if_pos (by omega), Nat.add_sub_cancel_left, List.getElem?_eq_getElem hj, he']), dy_of (x := u) (by rw [gL, if_neg (by omega), if_pos (by omega), Nat.add_sub_cancel_left, List.getElem?_eq_getElem hi, he])] at h1
 ·rw [gL, gX, if_pos hi, if_pos hi]
 ·refine dy_congr ?_
  rw [gL, gX, if_neg (by omega), if_pos h2, if_neg (by omega), if_neg (by omega), if_pos (by omega)]
  congr 1; omega
 ·refine dy_congr ?_
  rw [gL, gX, if_neg (by omega), if_neg (by omega), if_pos h2, if_neg (by omega), if_pos (by omega)]
  congr 1; omega
 ·rw [gL, gX, if_neg (by omega), if_neg (by omega), if_neg (by omega), if_neg (by omega), if_neg (by omega), if_neg (by omega)]
theorem rot_none {L : List Ev} {a m b mid s0 fin : Nat} (hs : Sym L a m b mid s0 fin) (h : s0 = m ∨ fin = m) : Rot L L a m b mid s0 fin := by
 obtain ⟨k1, k2, k3, k4, k5, k6, k7, _, _⟩ := hs
 refine ⟨Turned.refl _ _ _, fun _ _ => rfl, fun i h1 h2 => ?_, fun i h1 h2 => ?_, fun _ _ => rfl⟩
 ·exact dy_congr (by congr 1; omega)
 ·exact dy_congr (by congr 1; omega)
theorem Rot.left {L X : List Ev} {a m b mid s0 fin : Nat} (h : Rot L X a m b mid s0 fin) (hs : Sym L a m b mid s0 fin) (h1 : Upto L a m) (h2 : Upto L m b) : Upto X a s0 ∧ Upto X s0 mid := by
 obtain ⟨k1, k2, k3, k4, k5, k6, k7, _, _⟩ := hs
 refine ⟨(h1.sub (Nat.le_refl _) k2).eq fun t _ ht => h.lo t ht, fun s t h3 h4 h5 => ?_⟩
 rw [h.v s h3 (by omega), h.v t (by omega) h5]
 exact h2 _ _ (by omega) (by omega) (by omega)
theorem Rot.right {L X : List Ev} {a m b mid s0 fin : Nat} (h : Rot L X a m b mid s0 fin) (hs : Sym L a m b mid s0 fin) (h1 : Upto L a m) (h2 : Upto L m b) : Upto X mid fin ∧ Upto X fin b := by
 obtain ⟨k1, k2, k3, k4, k5, k6, k7, _, _⟩ := hs
 refine ⟨fun s t h3 h4 h5 => ?_, (h2.sub k3 (Nat.le_refl _)).eq fun t ht _ => h.hi t ht⟩
 rw [h.u s h3 (by omega), h.u t (by omega) h5]
 exact h1 _ _ (by omega) (by omega) (by omega)
theorem Rot.cross {L X : List Ev} {a m b mid s0 fin : Nat} (h : Rot L X a m b mid s0 fin) (hs : Sym L a m b mid s0 fin) (h1 : Upto L a m) (h2 : Upto L m b) : ∀ s t, a ≤ s → s < mid → mid ≤ t → t < b → dy X s ≤ dy X t := by
 obtain ⟨k1, k2, k3, k4, k5, k6, k7, hvu, hab⟩ := hs
 intro s t h3 h4 h5 h6
 rcases Nat.lt_or_ge s s0 with hs | hs
 ·rw [dy_congr (h.lo s hs)]
  rcases Nat.lt_or_ge t fin with ht | ht
  ·rw [h.u t h5 ht]; exact h1.le h3 (by omega) (by omega)
  ·rw [dy_congr (h.hi t ht)]; exact hab s t h3 hs ht h6
 ·rw [h.v s hs h4]
  rcases Nat.lt_or_ge t fin with ht | ht
  ·rw [h.u t h5 ht]; have := hvu (t - (fin - m)) (s + (m - s0)) (by omega) (by omega) (by omega) (by omega); omega
  ·rw [dy_congr (h.hi t ht)]; exact h2.le (by omega) (by omega) h6
theorem sym_done {X Y Z : List Ev} {a mid b : Nat} (hab : a ≤ mid) (hmb : mid ≤ b) (hb : b ≤ X.length) (hc : ∀ s t, a ≤ s → s < mid → mid ≤ t → t < b → dy X s ≤ dy X t)
  (h1 : Turned X Y a mid) (h2 : Upto Y a mid) (h3 : Turned Y Z mid b) (h4 : Upto Z mid b) : Turned X Z a b ∧ Upto Z a b := by
 refine ⟨(h1.wide (Nat.le_refl _) hmb).trans (h3.wide hab (Nat.le_refl _)), fun s t h5 h6 h7 => ?_⟩
 have c1 : ∀ s, a ≤ s → s < mid → ∀ t, mid ≤ t → t < b → dy Y s ≤ dy Y t := fun s hs1 hs2 t ht1 ht2 => by
  rw [dy_congr (h1.out t (.inr ht1))]
  exact h1.bound (q := fun v => ∀ t, mid ≤ t → t < b → v ≤ dy X t) (by omega) (fun s hs1 hs2 t ht1 ht2 => hc s t hs1 hs2 ht1 ht2) s hs1 hs2 t ht1 ht2
 rcases Nat.lt_or_ge s mid with hs | hs
 ·rw [dy_congr (h3.out s (.inl hs))]
  rcases Nat.lt_or_ge t mid with ht | ht
  ·rw [dy_congr (h3.out t (.inl ht))]; exact h2 s t h5 h6 ht
  ·exact h3.bound (q := fun v => dy Y s ≤ v) (by have := h1.len; omega) (fun t ht1 ht2 => c1 s h5 hs t ht1 ht2) t ht h7
 ·exact h4 s t hs h6 h7
end Go.Proofs.Ythcmpcekmkioaaa
namespace Go.Proofs.Ythcmpcekmkioaaa
open Go.RowKit
theorem halt {p : Prop} (h : Hid p) : p := h.out
def Half (a m b mid lo hi : Nat) : Prop := (mid < m ∧ lo + b = mid + m ∧ hi = mid) ∨ (m ≤ mid ∧ lo = a ∧ hi = m)
theorem rot_call {L : List Ev} {g n cap a m b mid s0 fin : Nat} {w : World} (fv : Value) (hrow : RowE w g n cap L) (hs : Sym L a m b mid s0 fin) (h1 : s0 < m) (h2 : m < fin) (hn : n ≤ 1000000) (hb : b ≤ n) :
  ∃ X, Rot L X a m b mid s0 fin ∧ Calls Try.prog 107 #[.slice (some ⟨g, 0, none⟩) n cap, .int .i64 s0, .int .i64 m, .int .i64 fin, fv] w fun e w' => e = .returned (.tuple #[]) ∧ RowE w' g n cap X ∧ Keeps (fun i => i = g) w w' := by
 have hl := hrow.2
 have hf := hs.fb
 obtain ⟨P, U, V, S, rfl, hP, hU, hV⟩ := split4 L (s0 := s0) (m := m) (fin := fin) (by omega) (by omega) (by omega)
 refine ⟨P ++ V ++ U ++ S, rot_of hs hP hU hV, ?_⟩
 exact rotEv_any P U V S g n cap s0 m fin fv w hrow (fun e => by subst e; simp at hU; omega) (fun e => by subst e; simp at hV; omega) hn hP.symm (by omega) (by omega)
set_option maxRecDepth 100000 in
set_option maxHeartbeats 3200000 in
theorem merge_mid1 (f : Nat) (ok : Ev → Prop) (hc : CmpBy f ok) (d : Nat) (ih : MergeAt f ok d) (a m b n cap g : Nat) (L : List Ev) (w : World) (hd : b - a ≤ d + 1) (h : RowE w g n cap L) (ham : a < m) (hmb : m < b) (ha1 : ¬ m = a + 1) (hb1 : ¬ b = m + 1) (hbn : b ≤ n) (hok : ∀ x ∈ L, ok x) (hn : n ≤ 1000000) (h1 : Upto L a m) (h2 : Upto L m b) (mid : Nat) (hmid : mid = (a + b) / 2) (hmm : mid < m) :
  Calls Try.prog 87 #[.slice (some ⟨g, 0, none⟩) n cap, .int .i64 a, .int .i64 m, .int .i64 b, .func (.func f) #[] #[]] w (MergePost L g n cap a b w) := by
 have eg := hc.eg
 have hcall := hc.call
 simp only [Ev.agg] at hcall
 have q0 : (((m : Int) - (a : Int)) == 1) = false := by simp; omega
 have q1 : (((b : Int) - (m : Int)) == 1) = false := by simp; omega
 have hln := h.2
 have hmI : ((a : Int) + b) / 2 = mid := by omega
 have hamid : a < mid := by omega
 have hmidb : mid < b := by omega
 obtain ⟨p, hp⟩ : ∃ p, mid + m - 1 = p := ⟨_, rfl⟩
 have hpI : (mid : Int) + m - 1 = p := by omega
 obtain ⟨lo, hlo⟩ : ∃ lo, mid + m - b = lo := ⟨_, rfl⟩
 have hloI : (mid : Int) + m - b = lo := by omega
 have hlh : Half a m b mid lo mid := .inl ⟨hmm, by omega, rfl⟩
 obtain ⟨H, Hok, Hc, Hcall, H1, H2, Hmid, Hp, Ih⟩ := hid9 h hok hc hcall h1 h2 hmid hp ih; clear ih hp hmid h2 h1 hcall hc hok h; have Hlh := Lib.hid hlh; clear hlh
 go_enter Try.func87, Try.ntmps87
 go_wp2
 go_loopw [20, 21] (fun x y wx => ∃ (i j : Nat), x = .int .i64 (i : Nat) ∧ y = .int .i64 (j : Nat) ∧ Bs (fun c => dy L (p - c) < dy L c) lo mid i j ∧ RowE wx g n cap L ∧ Keeps (fun i => i = g) w wx) (fun x y _ => (intOf y).toNat - (intOf x).toNat)
 case atStart => exact ⟨lo, mid, by go_num, by go_num, Bs.start (by omega), H.out, Keeps.refl _ _⟩
 case round =>
  obtain ⟨i, j, rfl, rfl, hbs, hrow, hk⟩ := hrel
  by_cases hlt : i < j
  ·have hltI : (i : Int) < (j : Int) := by omega
   have hbhi := hbs.hi'
   have hblo := hbs.lo'
   obtain ⟨h, hh⟩ : ∃ h : Nat, ((i : Int) + j) / 2 = h := ⟨(i + j) / 2, by omega⟩
   have hih : i ≤ h := by omega
   have hhj : h < j := by omega
   obtain ⟨q, hq⟩ : ∃ q, p - h = q := ⟨_, rfl⟩
   have hqI : (p : Int) - (h : Int) = q := by omega
   have hqn : q < n := by omega
   obtain ⟨⟨x0, x1, x2, x3, x4⟩, hx⟩ := get_some (L := L) (k := q) (by omega)
   obtain ⟨⟨y0, y1, y2, y3, y4⟩, hy⟩ := get_some (L := L) (k := h) (by omega)
   have okx : ok _ := Hok.out _ (List.mem_of_getElem? hx)
   have oky : ok _ := Hok.out _ (List.mem_of_getElem? hy)
   have hS := twoS.of (hrow.keep (Keeps.drew _)) hx hy
   have hxd := dy_of hx
   have hyd := dy_of hy
   simp only at hxd hyd
   have q2 : (h : Int) < (n : Int) := by omega
   have q3 : (q : Int) < (n : Int) := by omega
   have q5 : IntKind.i64.wrap (q : Int) = (q : Int) := IntWalk.i64_in _ ⟨by omega, by omega⟩
   have hmono := sym_mono (lo := lo) (hi := mid) H1.out H2.out ham hmb Hmid.out Hlh.out
   rw [Hp.out] at hmono
   have hcl := fun W => Hcall.out ⟨x0, x1, x2, x3, x4⟩ ⟨y0, y1, y2, y3, y4⟩ W okx oky
   simp only at hcl
   obtain ⟨Hbs, Hrow, Hk, Hx, Hy, Okx, Oky, HS, Hxd⟩ := hid9 hbs hrow hk hx hy okx oky hS hxd; clear hxd hS oky okx hy hx hk hrow hbs; obtain ⟨Hyd, Hmono, Hcl, Hq⟩ := hid4 hyd hmono hcl hq; clear hq hcl hmono hyd
   go_wp2_with fail
   try rw [hh]
   clear hh
   by_cases hlt2 : x1 < y1
   ·skip
    refine wp_region_mixw (twoS g q h x0 x1 x2 x3 x4 y0 y1 y2 y3 y4) (.take 0 (.take 1 (.take 2 (.take 3 (.take 4 (.take 5 (.take 6 (.take 7 (.take 8 (.take 9 (.take 10 (.move 11 (.take 12 (.take 13 .done)))))))))))))) (by kernel_rfl) (by kernel_rfl) ?_ ?_
    ·exact HS.out
    intro w1 hs1 hk1
    repeat (first
     | (refine mix_skip rfl (by rfl) ?_; try simp only [Act.put, List.setIfInBounds_toArray, List.set_cons_zero, List.set_cons_succ])
     | (refine mix_skipm rfl (by rfl) ?_; try simp only [Act.put, List.setIfInBounds_toArray, List.set_cons_zero, List.set_cons_succ])
     | (refine mix_take (v := ?_) rfl (by rfl) ?_ ?_; rotate_left; (· intro w' hSw; unfold twoS at hSw; go_simp; (try with_reducible rfl)); rotate_right; try simp only [Act.put, List.setIfInBounds_toArray, List.set_cons_zero, List.set_cons_succ]))
    refine mix_move rfl (fun K hK => ?_)
    go_simp
    go_at_fn f
    ((with_reducible refine (Hcl.out w1).mono ?_); rintro e w2 ⟨z, rfl, hz, hk2⟩; dsimp only)
    have hz' : z < 0 := hz.2 hlt2
    refine hK.out _ _ (by exact hs1.keep hk2 (by simp)) ?_
    clear hK K
    try simp only [Act.put, List.setIfInBounds_toArray, List.set_cons_zero, List.set_cons_succ]
    repeat (first
     | (refine mix_skip rfl (by rfl) ?_; try simp only [Act.put, List.setIfInBounds_toArray, List.set_cons_zero, List.set_cons_succ])
     | (refine mix_skipm rfl (by rfl) ?_; try simp only [Act.put, List.setIfInBounds_toArray, List.set_cons_zero, List.set_cons_succ])
     | (refine mix_take (v := ?_) rfl (by rfl) ?_ ?_; rotate_left; (· intro w' hSw; unfold twoS at hSw; go_simp; (try with_reducible rfl)); rotate_right; try simp only [Act.put, List.setIfInBounds_toArray, List.set_cons_zero, List.set_cons_succ]))
    refine mix_done ?_
    have hrow2 := (Hrow.out.keep hk1).keep hk2
    have hkw := (Hk.out.trans (hk1.mono (by simp))).trans (hk2.mono (by simp))
    have hb2 := Hbs.out.down Hmono.out hih hhj (by rw [Hq.out, Hxd.out, Hyd.out]; omega)
    clear hs1 hz
    obtain ⟨Hk1, Hk2, Hrow2, Hkw, Hb2⟩ := hid5 hk1 hk2 hrow2 hkw hb2; clear hb2 hkw hrow2 hk2 hk1
    go_wp2_with fail
    go_roundw
    case rel => exact ⟨i, h, rfl, rfl, Hb2.out, Hrow2.out, Hkw.out⟩
    case measure => simp [intOf]; omega
   ·skip
    refine wp_region_mixw (twoS g q h x0 x1 x2 x3 x4 y0 y1 y2 y3 y4) (.take 0 (.take 1 (.take 2 (.take 3 (.take 4 (.take 5 (.take 6 (.take 7 (.take 8 (.take 9 (.take 10 (.move 11 (.take 12 (.take 13 .done)))))))))))))) (by kernel_rfl) (by kernel_rfl) ?_ ?_
    ·exact HS.out
    intro w1 hs1 hk1
    repeat (first
     | (refine mix_skip rfl (by rfl) ?_; try simp only [Act.put, List.setIfInBounds_toArray, List.set_cons_zero, List.set_cons_succ])
     | (refine mix_skipm rfl (by rfl) ?_; try simp only [Act.put, List.setIfInBounds_toArray, List.set_cons_zero, List.set_cons_succ])
     | (refine mix_take (v := ?_) rfl (by rfl) ?_ ?_; rotate_left; (· intro w' hSw; unfold twoS at hSw; go_simp; (try with_reducible rfl)); rotate_right; try simp only [Act.put, List.setIfInBounds_toArray, List.set_cons_zero, List.set_cons_succ]))
    refine mix_move rfl (fun K hK => ?_)
    go_simp
    go_at_fn f
    ((with_reducible refine (Hcl.out w1).mono ?_); rintro e w2 ⟨z, rfl, hz, hk2⟩; dsimp only)
    have hz' : ¬ z < 0 := fun h => by have := hz.1 h; omega
    refine hK.out _ _ (by exact hs1.keep hk2 (by simp)) ?_
    clear hK K
    try simp only [Act.put, List.setIfInBounds_toArray, List.set_cons_zero, List.set_cons_succ]
    repeat (first
     | (refine mix_skip rfl (by rfl) ?_; try simp only [Act.put, List.setIfInBounds_toArray, List.set_cons_zero, List.set_cons_succ])
     | (refine mix_skipm rfl (by rfl) ?_; try simp only [Act.put, List.setIfInBounds_toArray, List.set_cons_zero, List.set_cons_succ])
     | (refine mix_take (v := ?_) rfl (by rfl) ?_ ?_; rotate_left; (· intro w' hSw; unfold twoS at hSw; go_simp; (try with_reducible rfl)); rotate_right; try simp only [Act.put, List.setIfInBounds_toArray, List.set_cons_zero, List.set_cons_succ]))
    refine mix_done ?_
    have hrow2 := (Hrow.out.keep hk1).keep hk2
    have hkw := (Hk.out.trans (hk1.mono (by simp))).trans (hk2.mono (by simp))
    have hb2 := Hbs.out.up Hmono.out hih hhj (by rw [Hq.out, Hxd.out, Hyd.out]; omega)
    clear hs1 hz
    obtain ⟨Hk1, Hk2, Hrow2, Hkw, Hb2⟩ := hid5 hk1 hk2 hrow2 hkw hb2; clear hb2 hkw hrow2 hk2 hk1
    go_wp2_with fail
    go_roundw
    case rel => exact ⟨h + 1, j, by go_num, rfl, Hb2.out, Hrow2.out, Hkw.out⟩
    case measure => simp [intOf]; omega
  ·obtain rfl : j = i := by have := hbs.le; omega
   rw [← Hp.out] at hbs
   have hsym := sym_of (lo := lo) (hi := mid) H1.out H2.out ham hmb Hmid.out Hlh.out hbs
   obtain ⟨fin, hfin⟩ : ∃ fin, mid + m - j = fin := ⟨_, rfl⟩
   rw [hfin] at hsym
   have z1 := hsym.al
   have z2 := hsym.sm
   have z3 := hsym.mf
   have z4 := hsym.fb
   have z5 := hsym.smid
   have z6 := hsym.midf
   have z7 := hsym.sum
   have hfI : (mid : Int) + m - j = fin := by omega
   obtain ⟨W1, hW1⟩ : ∃ x, x = wr := ⟨_, rfl⟩; subst hW1
   obtain ⟨Hbs, Hrow, Hk, Hsym, Hfin⟩ := hid5 hbs hrow hk hsym hfin; clear hfin hsym hk hrow hbs
   by_cases hR : j < m ∧ m < fin
   ·have hR1 : (j : Int) < (m : Int) := by omega
    have hR2 : (m : Int) < (fin : Int) := by omega
    obtain ⟨X, hrot, hcR⟩ := rot_call (.func (.func f) #[] #[]) Hrow.out Hsym.out hR.1 hR.2 hn hbn
    obtain ⟨Hrot, HcR⟩ := hid2 hrot hcR; clear hcR hrot
    go_wp2_with (go_at_call 107; (with_reducible refine HcR.out.mono ?_); rintro e w2 ⟨rfl, hrow2, hk2⟩; have Hrow2 := Lib.hid hrow2; have Hk2 := Lib.hid (Hk.out.same hk2); clear hrow2 hk2; refine halt ?_)
    refine Lib.hid ?_
    have hrl := Hrot.out.left Hsym.out H1.out H2.out
    have hrr := Hrot.out.right Hsym.out H1.out H2.out
    have hcr := Hrot.out.cross Hsym.out H1.out H2.out
    obtain ⟨Hrl, Hrr, Hcr⟩ := hid3 hrl hrr hcr; clear hcr hrr hrl
    by_cases hA : a < j ∧ j < mid
    ·have hA1 : (a : Int) < (j : Int) := by omega
     have hA2 : (j : Int) < (mid : Int) := by omega
     have hcA := Ih.out a j mid n cap g X w2 (by omega) Hrow2.out (by omega) (by omega) (by omega) (fun x hx => Hok.out x (Hrot.out.t.alike.mem hx)) hn Hrl.out.1 Hrl.out.2
     have HcA := Lib.hid hcA; clear hcA
     go_wp2_with (first | (go_at_call 87; (with_reducible refine HcA.out.mono ?_); rintro e w3 ⟨rfl, Y, htY, huY, hrow3, hk3⟩; have HtY := Lib.hid htY; have HuY := Lib.hid huY; have Hrow3 := Lib.hid hrow3; have Hk3 := Lib.hid (Hk2.out.same hk3); clear htY huY hrow3 hk3; refine halt ?_))
     refine Lib.hid ?_
     by_cases hB : fin < b ∧ mid < fin
     ·have hB1 : (mid : Int) < (fin : Int) := by omega
      have hB2 : (fin : Int) < (b : Int) := by omega
      have hcB := Ih.out mid fin b n cap g Y w3 (by omega) Hrow3.out (by omega) (by omega) hbn (fun x hx => Hok.out x (Hrot.out.t.alike.mem (HtY.out.alike.mem hx))) hn
       ((Hrr.out.1.eq fun t h1 h2 => HtY.out.out t (.inr h1))) ((Hrr.out.2.eq fun t h1 h2 => HtY.out.out t (.inr (by omega))))
      have HcB := Lib.hid hcB; clear hcB
      go_wp2_with (go_at_call 87; (with_reducible refine HcB.out.mono ?_); rintro e w4 ⟨rfl, Z, htZ, huZ, hrow4, hk4⟩; have HtZ := Lib.hid htZ; have HuZ := Lib.hid huZ; have Hrow4 := Lib.hid hrow4; have Hk4 := Lib.hid hk4; clear htZ huZ hrow4 hk4)
      go_end0
      have hd := sym_done (X := X) (by omega) (by omega) (by have := Hrot.out.t.len; omega) Hcr.out HtY.out HuY.out HtZ.out HuZ.out
      exact ⟨rfl, Z, Hrot.out.t.trans hd.1, hd.2, Hrow4.out, Hk3.out.same Hk4.out⟩
     ·have huZ : Upto Y mid b := by
       have e1 := Hrr.out
       by_cases hB3 : mid < fin
       ·exact (e1.1.sub (Nat.le_refl _) (by omega)).eq fun t h1 h2 => HtY.out.out t (.inr h1)
       ·exact (e1.2.sub (by omega) (Nat.le_refl _)).eq fun t h1 h2 => HtY.out.out t (.inr h1)
      have HuZ := Lib.hid huZ; clear huZ
      by_cases hB3 : (mid : Int) < (fin : Int)
      ·have hB4 : ¬ (fin : Int) < (b : Int) := by omega
       go_wp2
       go_end0
       have hd := sym_done (X := X) (by omega) (by omega) (by have := Hrot.out.t.len; omega) Hcr.out HtY.out HuY.out (Turned.refl _ _ _) HuZ.out
       exact ⟨rfl, Y, Hrot.out.t.trans hd.1, hd.2, Hrow3.out, Hk3.out⟩
      ·go_wp2
       go_end0
       have hd := sym_done (X := X) (by omega) (by omega) (by have := Hrot.out.t.len; omega) Hcr.out HtY.out HuY.out (Turned.refl _ _ _) HuZ.out
       exact ⟨rfl, Y, Hrot.out.t.trans hd.1, hd.2, Hrow3.out, Hk3.out⟩
    ·have huY : Upto X a mid := by
      by_cases hA3 : a < j
      ·exact Hrl.out.1.sub (Nat.le_refl _) (by omega)
      ·exact Hrl.out.2.sub (by omega) (Nat.le_refl _)
     obtain ⟨Y, hY⟩ : ∃ Y, Y = X := ⟨_, rfl⟩
     obtain ⟨w3, hw3⟩ : ∃ w3, w3 = w2 := ⟨_, rfl⟩
     have htY : Turned X Y a mid := by rw [hY]; exact Turned.refl _ _ _
     have hrow3 : RowE w3 g n cap Y := by rw [hY, hw3]; exact Hrow2.out
     have hk3 : Keeps (fun i => i = g) w w3 := by rw [hw3]; exact Hk2.out
     rw [← hY] at huY
     rw [← hw3]
     obtain ⟨HuY, HtY, Hrow3, Hk3, HY, Hw3⟩ := hid6 huY htY hrow3 hk3 hY hw3; clear hw3 hY hk3 hrow3 htY huY
     by_cases hA3 : (a : Int) < (j : Int)
     ·have hA4 : ¬ (j : Int) < (mid : Int) := by omega
      by_cases hB : fin < b ∧ mid < fin
      ·have hB1 : (mid : Int) < (fin : Int) := by omega
       have hB2 : (fin : Int) < (b : Int) := by omega
       have hcB := Ih.out mid fin b n cap g Y w3 (by omega) Hrow3.out (by omega) (by omega) hbn (fun x hx => Hok.out x (Hrot.out.t.alike.mem (HtY.out.alike.mem hx))) hn
        ((Hrr.out.1.eq fun t h1 h2 => HtY.out.out t (.inr h1))) ((Hrr.out.2.eq fun t h1 h2 => HtY.out.out t (.inr (by omega))))
       have HcB := Lib.hid hcB; clear hcB
       go_wp2_with (go_at_call 87; (with_reducible refine HcB.out.mono ?_); rintro e w4 ⟨rfl, Z, htZ, huZ, hrow4, hk4⟩; have HtZ := Lib.hid htZ; have HuZ := Lib.hid huZ; have Hrow4 := Lib.hid hrow4; have Hk4 := Lib.hid hk4; clear htZ huZ hrow4 hk4)
       go_end0
       have hd := sym_done (X := X) (by omega) (by omega) (by have := Hrot.out.t.len; omega) Hcr.out HtY.out HuY.out HtZ.out HuZ.out
       exact ⟨rfl, Z, Hrot.out.t.trans hd.1, hd.2, Hrow4.out, Hk3.out.same Hk4.out⟩
      ·have huZ : Upto Y mid b := by
        have e1 := Hrr.out
        by_cases hB3 : mid < fin
        ·exact (e1.1.sub (Nat.le_refl _) (by omega)).eq fun t h1 h2 => HtY.out.out t (.inr h1)
        ·exact (e1.2.sub (by omega) (Nat.le_refl _)).eq fun t h1 h2 => HtY.out.out t (.inr h1)
       have HuZ := Lib.hid huZ; clear huZ
       by_cases hB3 : (mid : Int) < (fin : Int)
       ·have hB4 : ¬ (fin : Int) < (b : Int) := by omega
        go_wp2
        go_end0
        have hd := sym_done (X := X) (by omega) (by omega) (by have := Hrot.out.t.len; omega) Hcr.out HtY.out HuY.out (Turned.refl _ _ _) HuZ.out
        exact ⟨rfl, Y, Hrot.out.t.trans hd.1, hd.2, Hrow3.out, Hk3.out⟩
       ·go_wp2
        go_end0
        have hd := sym_done (X := X) (by omega) (by omega) (by have := Hrot.out.t.len; omega) Hcr.out HtY.out HuY.out (Turned.refl _ _ _) HuZ.out
        exact ⟨rfl, Y, Hrot.out.t.trans hd.1, hd.2, Hrow3.out, Hk3.out⟩
     ·skip
      by_cases hB : fin < b ∧ mid < fin
      ·have hB1 : (mid : Int) < (fin : Int) := by omega
       have hB2 : (fin : Int) < (b : Int) := by omega
       have hcB := Ih.out mid fin b n cap g Y w3 (by omega) Hrow3.out (by omega) (by omega) hbn (fun x hx => Hok.out x (Hrot.out.t.alike.mem (HtY.out.alike.mem hx))) hn
        ((Hrr.out.1.eq fun t h1 h2 => HtY.out.out t (.inr h1))) ((Hrr.out.2.eq fun t h1 h2 => HtY.out.out t (.inr (by omega))))
       have HcB := Lib.hid hcB; clear hcB
       go_wp2_with (go_at_call 87; (with_reducible refine HcB.out.mono ?_); rintro e w4 ⟨rfl, Z, htZ, huZ, hrow4, hk4⟩; have HtZ := Lib.hid htZ; have HuZ := Lib.hid huZ; have Hrow4 := Lib.hid hrow4; have Hk4 := Lib.hid hk4; clear htZ huZ hrow4 hk4)
       go_end0
       have hd := sym_done (X := X) (by omega) (by omega) (by have := Hrot.out.t.len; omega) Hcr.out HtY.out HuY.out HtZ.out HuZ.out
       exact ⟨rfl, Z, Hrot.out.t.trans hd.1, hd.2, Hrow4.out, Hk3.out.same Hk4.out⟩
      ·have huZ : Upto Y mid b := by
        have e1 := Hrr.out
        by_cases hB3 : mid < fin
        ·exact (e1.1.sub (Nat.le_refl _) (by omega)).eq fun t h1 h2 => HtY.out.out t (.inr h1)
        ·exact (e1.2.sub (by omega) (Nat.le_refl _)).eq fun t h1 h2 => HtY.out.out t (.inr h1)
       have HuZ := Lib.hid huZ; clear huZ
       by_cases hB3 : (mid : Int) < (fin : Int)
       ·have hB4 : ¬ (fin : Int) < (b : Int) := by omega
        go_wp2
        go_end0
        have hd := sym_done (X := X) (by omega) (by omega) (by have := Hrot.out.t.len; omega) Hcr.out HtY.out HuY.out (Turned.refl _ _ _) HuZ.out
        exact ⟨rfl, Y, Hrot.out.t.trans hd.1, hd.2, Hrow3.out, Hk3.out⟩
       ·go_wp2
        go_end0
        have hd := sym_done (X := X) (by omega) (by omega) (by have := Hrot.out.t.len; omega) Hcr.out HtY.out HuY.out (Turned.refl _ _ _) HuZ.out
        exact ⟨rfl, Y, Hrot.out.t.trans hd.1, hd.2, Hrow3.out, Hk3.out⟩
   ·have hrot := rot_none Hsym.out (by omega)
    obtain ⟨X, hX⟩ : ∃ X, X = L := ⟨_, rfl⟩
    obtain ⟨w2, hw2⟩ : ∃ w2, w2 = W1 := ⟨_, rfl⟩
    have hrot' : Rot L X a m b mid j fin := by rw [hX]; exact hrot
    have hrow2 : RowE w2 g n cap X := by rw [hX, hw2]; exact Hrow.out
    have hk2 : Keeps (fun i => i = g) w w2 := by rw [hw2]; exact Hk.out
    have Hrot := Lib.hid hrot'; clear hrot hrot'
    rw [← hw2]
    obtain ⟨Hrow2, Hk2, HX, Hw2⟩ := hid4 hrow2 hk2 hX hw2; clear hw2 hX hk2 hrow2
    by_cases hR3 : (j : Int) < (m : Int)
    ·have hR4 : ¬ (m : Int) < (fin : Int) := by omega
     have hrl := Hrot.out.left Hsym.out H1.out H2.out
     have hrr := Hrot.out.right Hsym.out H1.out H2.out
     have hcr := Hrot.out.cross Hsym.out H1.out H2.out
     obtain ⟨Hrl, Hrr, Hcr⟩ := hid3 hrl hrr hcr; clear hcr hrr hrl
     by_cases hA : a < j ∧ j < mid
     ·have hA1 : (a : Int) < (j : Int) := by omega
      have hA2 : (j : Int) < (mid : Int) := by omega
      have hcA := Ih.out a j mid n cap g X w2 (by omega) Hrow2.out (by omega) (by omega) (by omega) (fun x hx => Hok.out x (Hrot.out.t.alike.mem hx)) hn Hrl.out.1 Hrl.out.2
      have HcA := Lib.hid hcA; clear hcA
      go_wp2_with (first | (go_at_call 87; (with_reducible refine HcA.out.mono ?_); rintro e w3 ⟨rfl, Y, htY, huY, hrow3, hk3⟩; have HtY := Lib.hid htY; have HuY := Lib.hid huY; have Hrow3 := Lib.hid hrow3; have Hk3 := Lib.hid (Hk2.out.same hk3); clear htY huY hrow3 hk3; refine halt ?_))
      refine Lib.hid ?_
      by_cases hB : fin < b ∧ mid < fin
      ·have hB1 : (mid : Int) < (fin : Int) := by omega
       have hB2 : (fin : Int) < (b : Int) := by omega
       have hcB := Ih.out mid fin b n cap g Y w3 (by omega) Hrow3.out (by omega) (by omega) hbn (fun x hx => Hok.out x (Hrot.out.t.alike.mem (HtY.out.alike.mem hx))) hn
        ((Hrr.out.1.eq fun t h1 h2 => HtY.out.out t (.inr h1))) ((Hrr.out.2.eq fun t h1 h2 => HtY.out.out t (.inr (by omega))))
       have HcB := Lib.hid hcB; clear hcB
       go_wp2_with (go_at_call 87; (with_reducible refine HcB.out.mono ?_); rintro e w4 ⟨rfl, Z, htZ, huZ, hrow4, hk4⟩; have HtZ := Lib.hid htZ; have HuZ := Lib.hid huZ; have Hrow4 := Lib.hid hrow4; have Hk4 := Lib.hid hk4; clear htZ huZ hrow4 hk4)
       go_end0
       have hd := sym_done (X := X) (by omega) (by omega) (by have := Hrot.out.t.len; omega) Hcr.out HtY.out HuY.out HtZ.out HuZ.out
       exact ⟨rfl, Z, Hrot.out.t.trans hd.1, hd.2, Hrow4.out, Hk3.out.same Hk4.out⟩
      ·have huZ : Upto Y mid b := by
        have e1 := Hrr.out
        by_cases hB3 : mid < fin
        ·exact (e1.1.sub (Nat.le_refl _) (by omega)).eq fun t h1 h2 => HtY.out.out t (.inr h1)
        ·exact (e1.2.sub (by omega) (Nat.le_refl _)).eq fun t h1 h2 => HtY.out.out t (.inr h1)
       have HuZ := Lib.hid huZ; clear huZ
       by_cases hB3 : (mid : Int) < (fin : Int)
       ·have hB4 : ¬ (fin : Int) < (b : Int) := by omega
        go_wp2
        go_end0
        have hd := sym_done (X := X) (by omega) (by omega) (by have := Hrot.out.t.len; omega) Hcr.out HtY.out HuY.out (Turned.refl _ _ _) HuZ.out
        exact ⟨rfl, Y, Hrot.out.t.trans hd.1, hd.2, Hrow3.out, Hk3.out⟩
       ·go_wp2
        go_end0
        have hd := sym_done (X := X) (by omega) (by omega) (by have := Hrot.out.t.len; omega) Hcr.out HtY.out HuY.out (Turned.refl _ _ _) HuZ.out
        exact ⟨rfl, Y, Hrot.out.t.trans hd.1, hd.2, Hrow3.out, Hk3.out⟩
     ·have huY : Upto X a mid := by
       by_cases hA3 : a < j
       ·exact Hrl.out.1.sub (Nat.le_refl _) (by omega)
       ·exact Hrl.out.2.sub (by omega) (Nat.le_refl _)
      obtain ⟨Y, hY⟩ : ∃ Y, Y = X := ⟨_, rfl⟩
      obtain ⟨w3, hw3⟩ : ∃ w3, w3 = w2 := ⟨_, rfl⟩
      have htY : Turned X Y a mid := by rw [hY]; exact Turned.refl _ _ _
      have hrow3 : RowE w3 g n cap Y := by rw [hY, hw3]; exact Hrow2.out
      have hk3 : Keeps (fun i => i = g) w w3 := by rw [hw3]; exact Hk2.out
      rw [← hY] at huY
      rw [← hw3]
      obtain ⟨HuY, HtY, Hrow3, Hk3, HY, Hw3⟩ := hid6 huY htY hrow3 hk3 hY hw3; clear hw3 hY hk3 hrow3 htY huY
      by_cases hA3 : (a : Int) < (j : Int)
      ·have hA4 : ¬ (j : Int) < (mid : Int) := by omega
       by_cases hB : fin < b ∧ mid < fin
       ·have hB1 : (mid : Int) < (fin : Int) := by omega
        have hB2 : (fin : Int) < (b : Int) := by omega
        have hcB := Ih.out mid fin b n cap g Y w3 (by omega) Hrow3.out (by omega) (by omega) hbn (fun x hx => Hok.out x (Hrot.out.t.alike.mem (HtY.out.alike.mem hx))) hn
         ((Hrr.out.1.eq fun t h1 h2 => HtY.out.out t (.inr h1))) ((Hrr.out.2.eq fun t h1 h2 => HtY.out.out t (.inr (by omega))))
        have HcB := Lib.hid hcB; clear hcB
        go_wp2_with (go_at_call 87; (with_reducible refine HcB.out.mono ?_); rintro e w4 ⟨rfl, Z, htZ, huZ, hrow4, hk4⟩; have HtZ := Lib.hid htZ; have HuZ := Lib.hid huZ; have Hrow4 := Lib.hid hrow4; have Hk4 := Lib.hid hk4; clear htZ huZ hrow4 hk4)
        go_end0
        have hd := sym_done (X := X) (by omega) (by omega) (by have := Hrot.out.t.len; omega) Hcr.out HtY.out HuY.out HtZ.out HuZ.out
        exact ⟨rfl, Z, Hrot.out.t.trans hd.1, hd.2, Hrow4.out, Hk3.out.same Hk4.out⟩
       ·have huZ : Upto Y mid b := by
         have e1 := Hrr.out
         by_cases hB3 : mid < fin
         ·exact (e1.1.sub (Nat.le_refl _) (by omega)).eq fun t h1 h2 => HtY.out.out t (.inr h1)
         ·exact (e1.2.sub (by omega) (Nat.le_refl _)).eq fun t h1 h2 => HtY.out.out t (.inr h1)
        have HuZ := Lib.hid huZ; clear huZ
        by_cases hB3 : (mid : Int) < (fin : Int)
        ·have hB4 : ¬ (fin : Int) < (b : Int) := by omega
         go_wp2
         go_end0
         have hd := sym_done (X := X) (by omega) (by omega) (by have := Hrot.out.t.len; omega) Hcr.out HtY.out HuY.out (Turned.refl _ _ _) HuZ.out
         exact ⟨rfl, Y, Hrot.out.t.trans hd.1, hd.2, Hrow3.out, Hk3.out⟩
        ·go_wp2
         go_end0
         have hd := sym_done (X := X) (by omega) (by omega) (by have := Hrot.out.t.len; omega) Hcr.out HtY.out HuY.out (Turned.refl _ _ _) HuZ.out
         exact ⟨rfl, Y, Hrot.out.t.trans hd.1, hd.2, Hrow3.out, Hk3.out⟩
      ·skip
       by_cases hB : fin < b ∧ mid < fin
       ·have hB1 : (mid : Int) < (fin : Int) := by omega
        have hB2 : (fin : Int) < (b : Int) := by omega
        have hcB := Ih.out mid fin b n cap g Y w3 (by omega) Hrow3.out (by omega) (by omega) hbn (fun x hx => Hok.out x (Hrot.out.t.alike.mem (HtY.out.alike.mem hx))) hn
         ((Hrr.out.1.eq fun t h1 h2 => HtY.out.out t (.inr h1))) ((Hrr.out.2.eq fun t h1 h2 => HtY.out.out t (.inr (by omega))))
        have HcB := Lib.hid hcB; clear hcB
        go_wp2_with (go_at_call 87; (with_reducible refine HcB.out.mono ?_); rintro e w4 ⟨rfl, Z, htZ, huZ, hrow4, hk4⟩; have HtZ := Lib.hid htZ; have HuZ := Lib.hid huZ; have Hrow4 := Lib.hid hrow4; have Hk4 := Lib.hid hk4; clear htZ huZ hrow4 hk4)
        go_end0
        have hd := sym_done (X := X) (by omega) (by omega) (by have := Hrot.out.t.len; omega) Hcr.out HtY.out HuY.out HtZ.out HuZ.out
        exact ⟨rfl, Z, Hrot.out.t.trans hd.1, hd.2, Hrow4.out, Hk3.out.same Hk4.out⟩
       ·have huZ : Upto Y mid b := by
         have e1 := Hrr.out
         by_cases hB3 : mid < fin
         ·exact (e1.1.sub (Nat.le_refl _) (by omega)).eq fun t h1 h2 => HtY.out.out t (.inr h1)
         ·exact (e1.2.sub (by omega) (Nat.le_refl _)).eq fun t h1 h2 => HtY.out.out t (.inr h1)
        have HuZ := Lib.hid huZ; clear huZ
        by_cases hB3 : (mid : Int) < (fin : Int)
        ·have hB4 : ¬ (fin : Int) < (b : Int) := by omega
         go_wp2
         go_end0
         have hd := sym_done (X := X) (by omega) (by omega) (by have := Hrot.out.t.len; omega) Hcr.out HtY.out HuY.out (Turned.refl _ _ _) HuZ.out
         exact ⟨rfl, Y, Hrot.out.t.trans hd.1, hd.2, Hrow3.out, Hk3.out⟩
        ·go_wp2
         go_end0
         have hd := sym_done (X := X) (by omega) (by omega) (by have := Hrot.out.t.len; omega) Hcr.out HtY.out HuY.out (Turned.refl _ _ _) HuZ.out
         exact ⟨rfl, Y, Hrot.out.t.trans hd.1, hd.2, Hrow3.out, Hk3.out⟩
    ·skip
     have hrl := Hrot.out.left Hsym.out H1.out H2.out
     have hrr := Hrot.out.right Hsym.out H1.out H2.out
     have hcr := Hrot.out.cross Hsym.out H1.out H2.out
     obtain ⟨Hrl, Hrr, Hcr⟩ := hid3 hrl hrr hcr; clear hcr hrr hrl
     by_cases hA : a < j ∧ j < mid
     ·have hA1 : (a : Int) < (j : Int) := by omega
      have hA2 : (j : Int) < (mid : Int) := by omega
      have hcA := Ih.out a j mid n cap g X w2 (by omega) Hrow2.out (by omega) (by omega) (by omega) (fun x hx => Hok.out x (Hrot.out.t.alike.mem hx)) hn Hrl.out.1 Hrl.out.2
      have HcA := Lib.hid hcA; clear hcA
      go_wp2_with (first | (go_at_call 87; (with_reducible refine HcA.out.mono ?_); rintro e w3 ⟨rfl, Y, htY, huY, hrow3, hk3⟩; have HtY := Lib.hid htY; have HuY := Lib.hid huY; have Hrow3 := Lib.hid hrow3; have Hk3 := Lib.hid (Hk2.out.same hk3); clear htY huY hrow3 hk3; refine halt ?_))
      refine Lib.hid ?_
      by_cases hB : fin < b ∧ mid < fin
      ·have hB1 : (mid : Int) < (fin : Int) := by omega
       have hB2 : (fin : Int) < (b : Int) := by omega
       have hcB := Ih.out mid fin b n cap g Y w3 (by omega) Hrow3.out (by omega) (by omega) hbn (fun x hx => Hok.out x (Hrot.out.t.alike.mem (HtY.out.alike.mem hx))) hn
        ((Hrr.out.1.eq fun t h1 h2 => HtY.out.out t (.inr h1))) ((Hrr.out.2.eq fun t h1 h2 => HtY.out.out t (.inr (by omega))))
       have HcB := Lib.hid hcB; clear hcB
       go_wp2_with (go_at_call 87; (with_reducible refine HcB.out.mono ?_); rintro e w4 ⟨rfl, Z, htZ, huZ, hrow4, hk4⟩; have HtZ := Lib.hid htZ; have HuZ := Lib.hid huZ; have Hrow4 := Lib.hid hrow4; have Hk4 := Lib.hid hk4; clear htZ huZ hrow4 hk4)
       go_end0
       have hd := sym_done (X := X) (by omega) (by omega) (by have := Hrot.out.t.len; omega) Hcr.out HtY.out HuY.out HtZ.out HuZ.out
       exact ⟨rfl, Z, Hrot.out.t.trans hd.1, hd.2, Hrow4.out, Hk3.out.same Hk4.out⟩
      ·have huZ : Upto Y mid b := by
        have e1 := Hrr.out
        by_cases hB3 : mid < fin
        ·exact (e1.1.sub (Nat.le_refl _) (by omega)).eq fun t h1 h2 => HtY.out.out t (.inr h1)
        ·exact (e1.2.sub (by omega) (Nat.le_refl _)).eq fun t h1 h2 => HtY.out.out t (.inr h1)
       have HuZ := Lib.hid huZ; clear huZ
       by_cases hB3 : (mid : Int) < (fin : Int)
       ·have hB4 : ¬ (fin : Int) < (b : Int) := by omega
        go_wp2
        go_end0
        have hd := sym_done (X := X) (by omega) (by omega) (by have := Hrot.out.t.len; omega) Hcr.out HtY.out HuY.out (Turned.refl _ _ _) HuZ.out
        exact ⟨rfl, Y, Hrot.out.t.trans hd.1, hd.2, Hrow3.out, Hk3.out⟩
       ·go_wp2
        go_end0
        have hd := sym_done (X := X) (by omega) (by omega) (by have := Hrot.out.t.len; omega) Hcr.out HtY.out HuY.out (Turned.refl _ _ _) HuZ.out
        exact ⟨rfl, Y, Hrot.out.t.trans hd.1, hd.2, Hrow3.out, Hk3.out⟩
     ·have huY : Upto X a mid := by
       by_cases hA3 : a < j
       ·exact Hrl.out.1.sub (Nat.le_refl _) (by omega)
       ·exact Hrl.out.2.sub (by omega) (Nat.le_refl _)
      obtain ⟨Y, hY⟩ : ∃ Y, Y = X := ⟨_, rfl⟩
      obtain ⟨w3, hw3⟩ : ∃ w3, w3 = w2 := ⟨_, rfl⟩
      have htY : Turned X Y a mid := by rw [hY]; exact Turned.refl _ _ _
      have hrow3 : RowE w3 g n cap Y := by rw [hY, hw3]; exact Hrow2.out
      have hk3 : Keeps (fun i => i = g) w w3 := by rw [hw3]; exact Hk2.out
      rw [← hY] at huY
      rw [← hw3]
      obtain ⟨HuY, HtY, Hrow3, Hk3, HY, Hw3⟩ := hid6 huY htY hrow3 hk3 hY hw3; clear hw3 hY hk3 hrow3 htY huY
      by_cases hA3 : (a : Int) < (j : Int)
      ·have hA4 : ¬ (j : Int) < (mid : Int) := by omega
       by_cases hB : fin < b ∧ mid < fin
       ·have hB1 : (mid : Int) < (fin : Int) := by omega
        have hB2 : (fin : Int) < (b : Int) := by omega
        have hcB := Ih.out mid fin b n cap g Y w3 (by omega) Hrow3.out (by omega) (by omega) hbn (fun x hx => Hok.out x (Hrot.out.t.alike.mem (HtY.out.alike.mem hx))) hn
         ((Hrr.out.1.eq fun t h1 h2 => HtY.out.out t (.inr h1))) ((Hrr.out.2.eq fun t h1 h2 => HtY.out.out t (.inr (by omega))))
        have HcB := Lib.hid hcB; clear hcB
        go_wp2_with (go_at_call 87; (with_reducible refine HcB.out.mono ?_); rintro e w4 ⟨rfl, Z, htZ, huZ, hrow4, hk4⟩; have HtZ := Lib.hid htZ; have HuZ := Lib.hid huZ; have Hrow4 := Lib.hid hrow4; have Hk4 := Lib.hid hk4; clear htZ huZ hrow4 hk4)
        go_end0
        have hd := sym_done (X := X) (by omega) (by omega) (by have := Hrot.out.t.len; omega) Hcr.out HtY.out HuY.out HtZ.out HuZ.out
        exact ⟨rfl, Z, Hrot.out.t.trans hd.1, hd.2, Hrow4.out, Hk3.out.same Hk4.out⟩
       ·have huZ : Upto Y mid b := by
         have e1 := Hrr.out
         by_cases hB3 : mid < fin
         ·exact (e1.1.sub (Nat.le_refl _) (by omega)).eq fun t h1 h2 => HtY.out.out t (.inr h1)
         ·exact (e1.2.sub (by omega) (Nat.le_refl _)).eq fun t h1 h2 => HtY.out.out t (.inr h1)
        have HuZ := Lib.hid huZ; clear huZ
        by_cases hB3 : (mid : Int) < (fin : Int)
        ·have hB4 : ¬ (fin : Int) < (b : Int) := by omega
         go_wp2
         go_end0
         have hd := sym_done (X := X) (by omega) (by omega) (by have := Hrot.out.t.len; omega) Hcr.out HtY.out HuY.out (Turned.refl _ _ _) HuZ.out
         exact ⟨rfl, Y, Hrot.out.t.trans hd.1, hd.2, Hrow3.out, Hk3.out⟩
        ·go_wp2
         go_end0
         have hd := sym_done (X := X) (by omega) (by omega) (by have := Hrot.out.t.len; omega) Hcr.out HtY.out HuY.out (Turned.refl _ _ _) HuZ.out
         exact ⟨rfl, Y, Hrot.out.t.trans hd.1, hd.2, Hrow3.out, Hk3.out⟩
      ·skip
       by_cases hB : fin < b ∧ mid < fin
       ·have hB1 : (mid : Int) < (fin : Int) := by omega
        have hB2 : (fin : Int) < (b : Int) := by omega
        have hcB := Ih.out mid fin b n cap g Y w3 (by omega) Hrow3.out (by omega) (by omega) hbn (fun x hx => Hok.out x (Hrot.out.t.alike.mem (HtY.out.alike.mem hx))) hn
         ((Hrr.out.1.eq fun t h1 h2 => HtY.out.out t (.inr h1))) ((Hrr.out.2.eq fun t h1 h2 => HtY.out.out t (.inr (by omega))))
        have HcB := Lib.hid hcB; clear hcB
        go_wp2_with (go_at_call 87; (with_reducible refine HcB.out.mono ?_); rintro e w4 ⟨rfl, Z, htZ, huZ, hrow4, hk4⟩; have HtZ := Lib.hid htZ; have HuZ := Lib.hid huZ; have Hrow4 := Lib.hid hrow4; have Hk4 := Lib.hid hk4; clear htZ huZ hrow4 hk4)
        go_end0
        have hd := sym_done (X := X) (by omega) (by omega) (by have := Hrot.out.t.len; omega) Hcr.out HtY.out HuY.out HtZ.out HuZ.out
        exact ⟨rfl, Z, Hrot.out.t.trans hd.1, hd.2, Hrow4.out, Hk3.out.same Hk4.out⟩
       ·have huZ : Upto Y mid b := by
         have e1 := Hrr.out
         by_cases hB3 : mid < fin
         ·exact (e1.1.sub (Nat.le_refl _) (by omega)).eq fun t h1 h2 => HtY.out.out t (.inr h1)
         ·exact (e1.2.sub (by omega) (Nat.le_refl _)).eq fun t h1 h2 => HtY.out.out t (.inr h1)
        have HuZ := Lib.hid huZ; clear huZ
        by_cases hB3 : (mid : Int) < (fin : Int)
        ·have hB4 : ¬ (fin : Int) < (b : Int) := by omega
         go_wp2
         go_end0
         have hd := sym_done (X := X) (by omega) (by omega) (by have := Hrot.out.t.len; omega) Hcr.out HtY.out HuY.out (Turned.refl _ _ _) HuZ.out
         exact ⟨rfl, Y, Hrot.out.t.trans hd.1, hd.2, Hrow3.out, Hk3.out⟩
        ·go_wp2
         go_end0
         have hd := sym_done (X := X) (by omega) (by omega) (by have := Hrot.out.t.len; omega) Hcr.out HtY.out HuY.out (Turned.refl _ _ _) HuZ.out
         exact ⟨rfl, Y, Hrot.out.t.trans hd.1, hd.2, Hrow3.out, Hk3.out⟩
end Go.Proofs.Ythcmpcekmkioaaa
namespace Go.Proofs.Ythcmpcekmkioaaa
open Go.RowKit
set_option maxRecDepth 100000 in
set_option maxHeartbeats 3200000 in
theorem merge_mid2 (f : Nat) (ok : Ev → Prop) (hc : CmpBy f ok) (d : Nat) (ih : MergeAt f ok d) (a m b n cap g : Nat) (L : List Ev) (w : World) (hd : b - a ≤ d + 1) (h : RowE w g n cap L) (ham : a < m) (hmb : m < b) (ha1 : ¬ m = a + 1) (hb1 : ¬ b = m + 1) (hbn : b ≤ n) (hok : ∀ x ∈ L, ok x) (hn : n ≤ 1000000) (h1 : Upto L a m) (h2 : Upto L m b) (mid : Nat) (hmid : mid = (a + b) / 2) (hmm : m ≤ mid) :
  Calls Try.prog 87 #[.slice (some ⟨g, 0, none⟩) n cap, .int .i64 a, .int .i64 m, .int .i64 b, .func (.func f) #[] #[]] w (MergePost L g n cap a b w) := by
 have eg := hc.eg
 have hcall := hc.call
 simp only [Ev.agg] at hcall
 have q0 : (((m : Int) - (a : Int)) == 1) = false := by simp; omega
 have q1 : (((b : Int) - (m : Int)) == 1) = false := by simp; omega
 have hln := h.2
 have hmI : ((a : Int) + b) / 2 = mid := by omega
 have hamid : a < mid := by omega
 have hmidb : mid < b := by omega
 obtain ⟨p, hp⟩ : ∃ p, mid + m - 1 = p := ⟨_, rfl⟩
 have hpI : (mid : Int) + m - 1 = p := by omega
 have hlh : Half a m b mid a m := .inr ⟨hmm, rfl, rfl⟩
 have hmmI : ¬ (m : Int) > (mid : Int) := by omega
 have hmmJ : (m : Int) ≤ (mid : Int) := by omega
 obtain ⟨H, Hok, Hc, Hcall, H1, H2, Hmid, Hp, Ih⟩ := hid9 h hok hc hcall h1 h2 hmid hp ih; clear ih hp hmid h2 h1 hcall hc hok h; have Hlh := Lib.hid hlh; clear hlh
 go_enter Try.func87, Try.ntmps87
 go_wp2
 go_loopw [20, 21] (fun x y wx => ∃ (i j : Nat), x = .int .i64 (i : Nat) ∧ y = .int .i64 (j : Nat) ∧ Bs (fun c => dy L (p - c) < dy L c) a m i j ∧ RowE wx g n cap L ∧ Keeps (fun i => i = g) w wx) (fun x y _ => (intOf y).toNat - (intOf x).toNat)
 case atStart => exact ⟨a, m, by go_num, by go_num, Bs.start (by omega), H.out, Keeps.refl _ _⟩
 case round =>
  obtain ⟨i, j, rfl, rfl, hbs, hrow, hk⟩ := hrel
  by_cases hlt : i < j
  ·have hltI : (i : Int) < (j : Int) := by omega
   have hbhi := hbs.hi'
   have hblo := hbs.lo'
   obtain ⟨h, hh⟩ : ∃ h : Nat, ((i : Int) + j) / 2 = h := ⟨(i + j) / 2, by omega⟩
   have hih : i ≤ h := by omega
   have hhj : h < j := by omega
   obtain ⟨q, hq⟩ : ∃ q, p - h = q := ⟨_, rfl⟩
   have hqI : (p : Int) - (h : Int) = q := by omega
   have hqn : q < n := by omega
   obtain ⟨⟨x0, x1, x2, x3, x4⟩, hx⟩ := get_some (L := L) (k := q) (by omega)
   obtain ⟨⟨y0, y1, y2, y3, y4⟩, hy⟩ := get_some (L := L) (k := h) (by omega)
   have okx : ok _ := Hok.out _ (List.mem_of_getElem? hx)
   have oky : ok _ := Hok.out _ (List.mem_of_getElem? hy)
   have hS := twoS.of (hrow.keep (Keeps.drew _)) hx hy
   have hxd := dy_of hx
   have hyd := dy_of hy
   simp only at hxd hyd
   have q2 : (h : Int) < (n : Int) := by omega
   have q3 : (q : Int) < (n : Int) := by omega
   have q5 : IntKind.i64.wrap (q : Int) = (q : Int) := IntWalk.i64_in _ ⟨by omega, by omega⟩
   have hmono := sym_mono (lo := a) (hi := m) H1.out H2.out ham hmb Hmid.out Hlh.out
   rw [Hp.out] at hmono
   have hcl := fun W => Hcall.out ⟨x0, x1, x2, x3, x4⟩ ⟨y0, y1, y2, y3, y4⟩ W okx oky
   simp only at hcl
   obtain ⟨Hbs, Hrow, Hk, Hx, Hy, Okx, Oky, HS, Hxd⟩ := hid9 hbs hrow hk hx hy okx oky hS hxd; clear hxd hS oky okx hy hx hk hrow hbs; obtain ⟨Hyd, Hmono, Hcl, Hq⟩ := hid4 hyd hmono hcl hq; clear hq hcl hmono hyd
   go_wp2_with fail
   try rw [hh]
   clear hh
   by_cases hlt2 : x1 < y1
   ·skip
    refine wp_region_mixw (twoS g q h x0 x1 x2 x3 x4 y0 y1 y2 y3 y4) (.take 0 (.take 1 (.take 2 (.take 3 (.take 4 (.take 5 (.take 6 (.take 7 (.take 8 (.take 9 (.take 10 (.move 11 (.take 12 (.take 13 .done)))))))))))))) (by kernel_rfl) (by kernel_rfl) ?_ ?_
    ·exact HS.out
    intro w1 hs1 hk1
    repeat (first
     | (refine mix_skip rfl (by rfl) ?_; try simp only [Act.put, List.setIfInBounds_toArray, List.set_cons_zero, List.set_cons_succ])
     | (refine mix_skipm rfl (by rfl) ?_; try simp only [Act.put, List.setIfInBounds_toArray, List.set_cons_zero, List.set_cons_succ])
     | (refine mix_take (v := ?_) rfl (by rfl) ?_ ?_; rotate_left; (· intro w' hSw; unfold twoS at hSw; go_simp; (try with_reducible rfl)); rotate_right; try simp only [Act.put, List.setIfInBounds_toArray, List.set_cons_zero, List.set_cons_succ]))
    refine mix_move rfl (fun K hK => ?_)
    go_simp
    go_at_fn f
    ((with_reducible refine (Hcl.out w1).mono ?_); rintro e w2 ⟨z, rfl, hz, hk2⟩; dsimp only)
    have hz' : z < 0 := hz.2 hlt2
    refine hK.out _ _ (by exact hs1.keep hk2 (by simp)) ?_
    clear hK K
    try simp only [Act.put, List.setIfInBounds_toArray, List.set_cons_zero, List.set_cons_succ]
    repeat (first
     | (refine mix_skip rfl (by rfl) ?_; try simp only [Act.put, List.setIfInBounds_toArray, List.set_cons_zero, List.set_cons_succ])
     | (refine mix_skipm rfl (by rfl) ?_; try simp only [Act.put, List.setIfInBounds_toArray, List.set_cons_zero, List.set_cons_succ])
     | (refine mix_take (v := ?_) rfl (by rfl) ?_ ?_; rotate_left; (· intro w' hSw; unfold twoS at hSw; go_simp; (try with_reducible rfl)); rotate_right; try simp only [Act.put, List.setIfInBounds_toArray, List.set_cons_zero, List.set_cons_succ]))
    refine mix_done ?_
    have hrow2 := (Hrow.out.keep hk1).keep hk2
    have hkw := (Hk.out.trans (hk1.mono (by simp))).trans (hk2.mono (by simp))
    have hb2 := Hbs.out.down Hmono.out hih hhj (by rw [Hq.out, Hxd.out, Hyd.out]; omega)
    clear hs1 hz
    obtain ⟨Hk1, Hk2, Hrow2, Hkw, Hb2⟩ := hid5 hk1 hk2 hrow2 hkw hb2; clear hb2 hkw hrow2 hk2 hk1
    go_wp2_with fail
    go_roundw
    case rel => exact ⟨i, h, rfl, rfl, Hb2.out, Hrow2.out, Hkw.out⟩
    case measure => simp [intOf]; omega
   ·skip
    refine wp_region_mixw (twoS g q h x0 x1 x2 x3 x4 y0 y1 y2 y3 y4) (.take 0 (.take 1 (.take 2 (.take 3 (.take 4 (.take 5 (.take 6 (.take 7 (.take 8 (.take 9 (.take 10 (.move 11 (.take 12 (.take 13 .done)))))))))))))) (by kernel_rfl) (by kernel_rfl) ?_ ?_
    ·exact HS.out
    intro w1 hs1 hk1
    repeat (first
     | (refine mix_skip rfl (by rfl) ?_; try simp only [Act.put, List.setIfInBounds_toArray, List.set_cons_zero, List.set_cons_succ])
     | (refine mix_skipm rfl (by rfl) ?_; try simp only [Act.put, List.setIfInBounds_toArray, List.set_cons_zero, List.set_cons_succ])
     | (refine mix_take (v := ?_) rfl (by rfl) ?_ ?_; rotate_left; (· intro w' hSw; unfold twoS at hSw; go_simp; (try with_reducible rfl)); rotate_right; try simp only [Act.put, List.setIfInBounds_toArray, List.set_cons_zero, List.set_cons_succ]))
    refine mix_move rfl (fun K hK => ?_)
    go_simp
    go_at_fn f
    ((with_reducible refine (Hcl.out w1).mono ?_); rintro e w2 ⟨z, rfl, hz, hk2⟩; dsimp only)
    have hz' : ¬ z < 0 := fun h => by have := hz.1 h; omega
    refine hK.out _ _ (by exact hs1.keep hk2 (by simp)) ?_
    clear hK K
    try simp only [Act.put, List.setIfInBounds_toArray, List.set_cons_zero, List.set_cons_succ]
    repeat (first
     | (refine mix_skip rfl (by rfl) ?_; try simp only [Act.put, List.setIfInBounds_toArray, List.set_cons_zero, List.set_cons_succ])
     | (refine mix_skipm rfl (by rfl) ?_; try simp only [Act.put, List.setIfInBounds_toArray, List.set_cons_zero, List.set_cons_succ])
     | (refine mix_take (v := ?_) rfl (by rfl) ?_ ?_; rotate_left; (· intro w' hSw; unfold twoS at hSw; go_simp; (try with_reducible rfl)); rotate_right; try simp only [Act.put, List.setIfInBounds_toArray, List.set_cons_zero, List.set_cons_succ]))
    refine mix_done ?_
    have hrow2 := (Hrow.out.keep hk1).keep hk2
    have hkw := (Hk.out.trans (hk1.mono (by simp))).trans (hk2.mono (by simp))
    have hb2 := Hbs.out.up Hmono.out hih hhj (by rw [Hq.out, Hxd.out, Hyd.out]; omega)
    clear hs1 hz
    obtain ⟨Hk1, Hk2, Hrow2, Hkw, Hb2⟩ := hid5 hk1 hk2 hrow2 hkw hb2; clear hb2 hkw hrow2 hk2 hk1
    go_wp2_with fail
    go_roundw
    case rel => exact ⟨h + 1, j, by go_num, rfl, Hb2.out, Hrow2.out, Hkw.out⟩
    case measure => simp [intOf]; omega
  ·obtain rfl : j = i := by have := hbs.le; omega
   rw [← Hp.out] at hbs
   have hsym := sym_of (lo := a) (hi := m) H1.out H2.out ham hmb Hmid.out Hlh.out hbs
   obtain ⟨fin, hfin⟩ : ∃ fin, mid + m - j = fin := ⟨_, rfl⟩
   rw [hfin] at hsym
   have z1 := hsym.al
   have z2 := hsym.sm
   have z3 := hsym.mf
   have z4 := hsym.fb
   have z5 := hsym.smid
   have z6 := hsym.midf
   have z7 := hsym.sum
   have hfI : (mid : Int) + m - j = fin := by omega
   obtain ⟨W1, hW1⟩ : ∃ x, x = wr := ⟨_, rfl⟩; subst hW1
   obtain ⟨Hbs, Hrow, Hk, Hsym, Hfin⟩ := hid5 hbs hrow hk hsym hfin; clear hfin hsym hk hrow hbs
   by_cases hR : j < m ∧ m < fin
   ·have hR1 : (j : Int) < (m : Int) := by omega
    have hR2 : (m : Int) < (fin : Int) := by omega
    obtain ⟨X, hrot, hcR⟩ := rot_call (.func (.func f) #[] #[]) Hrow.out Hsym.out hR.1 hR.2 hn hbn
    obtain ⟨Hrot, HcR⟩ := hid2 hrot hcR; clear hcR hrot
    go_wp2_with (go_at_call 107; (with_reducible refine HcR.out.mono ?_); rintro e w2 ⟨rfl, hrow2, hk2⟩; have Hrow2 := Lib.hid hrow2; have Hk2 := Lib.hid (Hk.out.same hk2); clear hrow2 hk2; refine halt ?_)
    refine Lib.hid ?_
    have hrl := Hrot.out.left Hsym.out H1.out H2.out
    have hrr := Hrot.out.right Hsym.out H1.out H2.out
    have hcr := Hrot.out.cross Hsym.out H1.out H2.out
    obtain ⟨Hrl, Hrr, Hcr⟩ := hid3 hrl hrr hcr; clear hcr hrr hrl
    by_cases hA : a < j ∧ j < mid
    ·have hA1 : (a : Int) < (j : Int) := by omega
     have hA2 : (j : Int) < (mid : Int) := by omega
     have hcA := Ih.out a j mid n cap g X w2 (by omega) Hrow2.out (by omega) (by omega) (by omega) (fun x hx => Hok.out x (Hrot.out.t.alike.mem hx)) hn Hrl.out.1 Hrl.out.2
     have HcA := Lib.hid hcA; clear hcA
     go_wp2_with (first | (go_at_call 87; (with_reducible refine HcA.out.mono ?_); rintro e w3 ⟨rfl, Y, htY, huY, hrow3, hk3⟩; have HtY := Lib.hid htY; have HuY := Lib.hid huY; have Hrow3 := Lib.hid hrow3; have Hk3 := Lib.hid (Hk2.out.same hk3); clear htY huY hrow3 hk3; refine halt ?_))
     refine Lib.hid ?_
     by_cases hB : fin < b ∧ mid < fin
     ·have hB1 : (mid : Int) < (fin : Int) := by omega
      have hB2 : (fin : Int) < (b : Int) := by omega
      have hcB := Ih.out mid fin b n cap g Y w3 (by omega) Hrow3.out (by omega) (by omega) hbn (fun x hx => Hok.out x (Hrot.out.t.alike.mem (HtY.out.alike.mem hx))) hn
       ((Hrr.out.1.eq fun t h1 h2 => HtY.out.out t (.inr h1))) ((Hrr.out.2.eq fun t h1 h2 => HtY.out.out t (.inr (by omega))))
      have HcB := Lib.hid hcB; clear hcB
      go_wp2_with (go_at_call 87; (with_reducible refine HcB.out.mono ?_); rintro e w4 ⟨rfl, Z, htZ, huZ, hrow4, hk4⟩; have HtZ := Lib.hid htZ; have HuZ := Lib.hid huZ; have Hrow4 := Lib.hid hrow4; have Hk4 := Lib.hid hk4; clear htZ huZ hrow4 hk4)
      go_end0
      have hd := sym_done (X := X) (by omega) (by omega) (by have := Hrot.out.t.len; omega) Hcr.out HtY.out HuY.out HtZ.out HuZ.out
      exact ⟨rfl, Z, Hrot.out.t.trans hd.1, hd.2, Hrow4.out, Hk3.out.same Hk4.out⟩
     ·have huZ : Upto Y mid b := by
       have e1 := Hrr.out
       by_cases hB3 : mid < fin
       ·exact (e1.1.sub (Nat.le_refl _) (by omega)).eq fun t h1 h2 => HtY.out.out t (.inr h1)
       ·exact (e1.2.sub (by omega) (Nat.le_refl _)).eq fun t h1 h2 => HtY.out.out t (.inr h1)
      have HuZ := Lib.hid huZ; clear huZ
      by_cases hB3 : (mid : Int) < (fin : Int)
      ·have hB4 : ¬ (fin : Int) < (b : Int) := by omega
       go_wp2
       go_end0
       have hd := sym_done (X := X) (by omega) (by omega) (by have := Hrot.out.t.len; omega) Hcr.out HtY.out HuY.out (Turned.refl _ _ _) HuZ.out
       exact ⟨rfl, Y, Hrot.out.t.trans hd.1, hd.2, Hrow3.out, Hk3.out⟩
      ·go_wp2
       go_end0
       have hd := sym_done (X := X) (by omega) (by omega) (by have := Hrot.out.t.len; omega) Hcr.out HtY.out HuY.out (Turned.refl _ _ _) HuZ.out
       exact ⟨rfl, Y, Hrot.out.t.trans hd.1, hd.2, Hrow3.out, Hk3.out⟩
    ·have huY : Upto X a mid := by
      by_cases hA3 : a < j
      ·exact Hrl.out.1.sub (Nat.le_refl _) (by omega)
      ·exact Hrl.out.2.sub (by omega) (Nat.le_refl _)
     obtain ⟨Y, hY⟩ : ∃ Y, Y = X := ⟨_, rfl⟩
     obtain ⟨w3, hw3⟩ : ∃ w3, w3 = w2 := ⟨_, rfl⟩
     have htY : Turned X Y a mid := by rw [hY]; exact Turned.refl _ _ _
     have hrow3 : RowE w3 g n cap Y := by rw [hY, hw3]; exact Hrow2.out
     have hk3 : Keeps (fun i => i = g) w w3 := by rw [hw3]; exact Hk2.out
     rw [← hY] at huY
     rw [← hw3]
     obtain ⟨HuY, HtY, Hrow3, Hk3, HY, Hw3⟩ := hid6 huY htY hrow3 hk3 hY hw3; clear hw3 hY hk3 hrow3 htY huY
     by_cases hA3 : (a : Int) < (j : Int)
     ·have hA4 : ¬ (j : Int) < (mid : Int) := by omega
      by_cases hB : fin < b ∧ mid < fin
      ·have hB1 : (mid : Int) < (fin : Int) := by omega
       have hB2 : (fin : Int) < (b : Int) := by omega
       have hcB := Ih.out mid fin b n cap g Y w3 (by omega) Hrow3.out (by omega) (by omega) hbn (fun x hx => Hok.out x (Hrot.out.t.alike.mem (HtY.out.alike.mem hx))) hn
        ((Hrr.out.1.eq fun t h1 h2 => HtY.out.out t (.inr h1))) ((Hrr.out.2.eq fun t h1 h2 => HtY.out.out t (.inr (by omega))))
       have HcB := Lib.hid hcB; clear hcB
       go_wp2_with (go_at_call 87; (with_reducible refine HcB.out.mono ?_); rintro e w4 ⟨rfl, Z, htZ, huZ, hrow4, hk4⟩; have HtZ := Lib.hid htZ; have HuZ := Lib.hid huZ; have Hrow4 := Lib.hid hrow4; have Hk4 := Lib.hid hk4; clear htZ huZ hrow4 hk4)
       go_end0
       have hd := sym_done (X := X) (by omega) (by omega) (by have := Hrot.out.t.len; omega) Hcr.out HtY.out HuY.out HtZ.out HuZ.out
       exact ⟨rfl, Z, Hrot.out.t.trans hd.1, hd.2, Hrow4.out, Hk3.out.same Hk4.out⟩
      ·have huZ : Upto Y mid b := by
        have e1 := Hrr.out
        by_cases hB3 : mid < fin
        ·exact (e1.1.sub (Nat.le_refl _) (by omega)).eq fun t h1 h2 => HtY.out.out t (.inr h1)
        ·exact (e1.2.sub (by omega) (Nat.le_refl _)).eq fun t h1 h2 => HtY.out.out t (.inr h1)
       have HuZ := Lib.hid huZ; clear huZ
       by_cases hB3 : (mid : Int) < (fin : Int)
       ·have hB4 : ¬ (fin : Int) < (b : Int) := by omega
        go_wp2
        go_end0
        have hd := sym_done (X := X) (by omega) (by omega) (by have := Hrot.out.t.len; omega) Hcr.out HtY.out HuY.out (Turned.refl _ _ _) HuZ.out
        exact ⟨rfl, Y, Hrot.out.t.trans hd.1, hd.2, Hrow3.out, Hk3.out⟩
       ·go_wp2
        go_end0
        have hd := sym_done (X := X) (by omega) (by omega) (by have := Hrot.out.t.len; omega) Hcr.out HtY.out HuY.out (Turned.refl _ _ _) HuZ.out
        exact ⟨rfl, Y, Hrot.out.t.trans hd.1, hd.2, Hrow3.out, Hk3.out⟩
     ·skip
      by_cases hB : fin < b ∧ mid < fin
      ·have hB1 : (mid : Int) < (fin : Int) := by omega
       have hB2 : (fin : Int) < (b : Int) := by omega
       have hcB := Ih.out mid fin b n cap g Y w3 (by omega) Hrow3.out (by omega) (by omega) hbn (fun x hx => Hok.out x (Hrot.out.t.alike.mem (HtY.out.alike.mem hx))) hn
        ((Hrr.out.1.eq fun t h1 h2 => HtY.out.out t (.inr h1))) ((Hrr.out.2.eq fun t h1 h2 => HtY.out.out t (.inr (by omega))))
       have HcB := Lib.hid hcB; clear hcB
       go_wp2_with (go_at_call 87; (with_reducible refine HcB.out.mono ?_); rintro e w4 ⟨rfl, Z, htZ, huZ, hrow4, hk4⟩; have HtZ := Lib.hid htZ; have HuZ := Lib.hid huZ; have Hrow4 := Lib.hid hrow4; have Hk4 := Lib.hid hk4; clear htZ huZ hrow4 hk4)
       go_end0
       have hd := sym_done (X := X) (by omega) (by omega) (by have := Hrot.out.t.len; omega) Hcr.out HtY.out HuY.out HtZ.out HuZ.out
       exact ⟨rfl, Z, Hrot.out.t.trans hd.1, hd.2, Hrow4.out, Hk3.out.same Hk4.out⟩
      ·have huZ : Upto Y mid b := by
        have e1 := Hrr.out
        by_cases hB3 : mid < fin
        ·exact (e1.1.sub (Nat.le_refl _) (by omega)).eq fun t h1 h2 => HtY.out.out t (.inr h1)
        ·exact (e1.2.sub (by omega) (Nat.le_refl _)).eq fun t h1 h2 => HtY.out.out t (.inr h1)
       have HuZ := Lib.hid huZ; clear huZ
       by_cases hB3 : (mid : Int) < (fin : Int)
       ·have hB4 : ¬ (fin : Int) < (b : Int) := by omega
        go_wp2
        go_end0
        have hd := sym_done (X := X) (by omega) (by omega) (by have := Hrot.out.t.len; omega) Hcr.out HtY.out HuY.out (Turned.refl _ _ _) HuZ.out
        exact ⟨rfl, Y, Hrot.out.t.trans hd.1, hd.2, Hrow3.out, Hk3.out⟩
       ·go_wp2
        go_end0
        have hd := sym_done (X := X) (by omega) (by omega) (by have := Hrot.out.t.len; omega) Hcr.out HtY.out HuY.out (Turned.refl _ _ _) HuZ.out
        exact ⟨rfl, Y, Hrot.out.t.trans hd.1, hd.2, Hrow3.out, Hk3.out⟩
   ·have hrot := rot_none Hsym.out (by omega)
    obtain ⟨X, hX⟩ : ∃ X, X = L := ⟨_, rfl⟩
    obtain ⟨w2, hw2⟩ : ∃ w2, w2 = W1 := ⟨_, rfl⟩
    have hrot' : Rot L X a m b mid j fin := by rw [hX]; exact hrot
    have hrow2 : RowE w2 g n cap X := by rw [hX, hw2]; exact Hrow.out
    have hk2 : Keeps (fun i => i = g) w w2 := by rw [hw2]; exact Hk.out
    have Hrot := Lib.hid hrot'; clear hrot hrot'
    rw [← hw2]
    obtain ⟨Hrow2, Hk2, HX, Hw2⟩ := hid4 hrow2 hk2 hX hw2; clear hw2 hX hk2 hrow2
    by_cases hR3 : (j : Int) < (m : Int)
    ·have hR4 : ¬ (m : Int) < (fin : Int) := by omega
     have hrl := Hrot.out.left Hsym.out H1.out H2.out
     have hrr := Hrot.out.right Hsym.out H1.out H2.out
     have hcr := Hrot.out.cross Hsym.out H1.out H2.out
     obtain ⟨Hrl, Hrr, Hcr⟩ := hid3 hrl hrr hcr; clear hcr hrr hrl
     by_cases hA : a < j ∧ j < mid
     ·have hA1 : (a : Int) < (j : Int) := by omega
      have hA2 : (j : Int) < (mid : Int) := by omega
      have hcA := Ih.out a j mid n cap g X w2 (by omega) Hrow2.out (by omega) (by omega) (by omega) (fun x hx => Hok.out x (Hrot.out.t.alike.mem hx)) hn Hrl.out.1 Hrl.out.2
      have HcA := Lib.hid hcA; clear hcA
      go_wp2_with (first | (go_at_call 87; (with_reducible refine HcA.out.mono ?_); rintro e w3 ⟨rfl, Y, htY, huY, hrow3, hk3⟩; have HtY := Lib.hid htY; have HuY := Lib.hid huY; have Hrow3 := Lib.hid hrow3; have Hk3 := Lib.hid (Hk2.out.same hk3); clear htY huY hrow3 hk3; refine halt ?_))
      refine Lib.hid ?_
      by_cases hB : fin < b ∧ mid < fin
      ·have hB1 : (mid : Int) < (fin : Int) := by omega
       have hB2 : (fin : Int) < (b : Int) := by omega
       have hcB := Ih.out mid fin b n cap g Y w3 (by omega) Hrow3.out (by omega) (by omega) hbn (fun x hx => Hok.out x (Hrot.out.t.alike.mem (HtY.out.alike.mem hx))) hn
        ((Hrr.out.1.eq fun t h1 h2 => HtY.out.out t (.inr h1))) ((Hrr.out.2.eq fun t h1 h2 => HtY.out.out t (.inr (by omega))))
       have HcB := Lib.hid hcB; clear hcB
       go_wp2_with (go_at_call 87; (with_reducible refine HcB.out.mono ?_); rintro e w4 ⟨rfl, Z, htZ, huZ, hrow4, hk4⟩; have HtZ := Lib.hid htZ; have HuZ := Lib.hid huZ; have Hrow4 := Lib.hid hrow4; have Hk4 := Lib.hid hk4; clear htZ huZ hrow4 hk4)
       go_end0
       have hd := sym_done (X := X) (by omega) (by omega) (by have := Hrot.out.t.len; omega) Hcr.out HtY.out HuY.out HtZ.out HuZ.out
       exact ⟨rfl, Z, Hrot.out.t.trans hd.1, hd.2, Hrow4.out, Hk3.out.same Hk4.out⟩
      ·have huZ : Upto Y mid b := by
        have e1 := Hrr.out
        by_cases hB3 : mid < fin
        ·exact (e1.1.sub (Nat.le_refl _) (by omega)).eq fun t h1 h2 => HtY.out.out t (.inr h1)
        ·exact (e1.2.sub (by omega) (Nat.le_refl _)).eq fun t h1 h2 => HtY.out.out t (.inr h1)
       have HuZ := Lib.hid huZ; clear huZ
       by_cases hB3 : (mid : Int) < (fin : Int)
       ·have hB4 : ¬ (fin : Int) < (b : Int) := by omega
        go_wp2
        go_end0
        have hd := sym_done (X := X) (by omega) (by omega) (by have := Hrot.out.t.len; omega) Hcr.out HtY.out HuY.out (Turned.refl _ _ _) HuZ.out
        exact ⟨rfl, Y, Hrot.out.t.trans hd.1, hd.2, Hrow3.out, Hk3.out⟩
       ·go_wp2
        go_end0
        have hd := sym_done (X := X) (by omega) (by omega) (by have := Hrot.out.t.len; omega) Hcr.out HtY.out HuY.out (Turned.refl _ _ _) HuZ.out
        exact ⟨rfl, Y, Hrot.out.t.trans hd.1, hd.2, Hrow3.out, Hk3.out⟩
     ·have huY : Upto X a mid := by
       by_cases hA3 : a < j
       ·exact Hrl.out.1.sub (Nat.le_refl _) (by omega)
       ·exact Hrl.out.2.sub (by omega) (Nat.le_refl _)
      obtain ⟨Y, hY⟩ : ∃ Y, Y = X := ⟨_, rfl⟩
      obtain ⟨w3, hw3⟩ : ∃ w3, w3 = w2 := ⟨_, rfl⟩
      have htY : Turned X Y a mid := by rw [hY]; exact Turned.refl _ _ _
      have hrow3 : RowE w3 g n cap Y := by rw [hY, hw3]; exact Hrow2.out
      have hk3 : Keeps (fun i => i = g) w w3 := by rw [hw3]; exact Hk2.out
      rw [← hY] at huY
      rw [← hw3]
      obtain ⟨HuY, HtY, Hrow3, Hk3, HY, Hw3⟩ := hid6 huY htY hrow3 hk3 hY hw3; clear hw3 hY hk3 hrow3 htY huY
      by_cases hA3 : (a : Int) < (j : Int)
      ·have hA4 : ¬ (j : Int) < (mid : Int) := by omega
       by_cases hB : fin < b ∧ mid < fin
       ·have hB1 : (mid : Int) < (fin : Int) := by omega
        have hB2 : (fin : Int) < (b : Int) := by omega
        have hcB := Ih.out mid fin b n cap g Y w3 (by omega) Hrow3.out (by omega) (by omega) hbn (fun x hx => Hok.out x (Hrot.out.t.alike.mem (HtY.out.alike.mem hx))) hn
         ((Hrr.out.1.eq fun t h1 h2 => HtY.out.out t (.inr h1))) ((Hrr.out.2.eq fun t h1 h2 => HtY.out.out t (.inr (by omega))))
        have HcB := Lib.hid hcB; clear hcB
        go_wp2_with (go_at_call 87; (with_reducible refine HcB.out.mono ?_); rintro e w4 ⟨rfl, Z, htZ, huZ, hrow4, hk4⟩; have HtZ := Lib.hid htZ; have HuZ := Lib.hid huZ; have Hrow4 := Lib.hid hrow4; have Hk4 := Lib.hid hk4; clear htZ huZ hrow4 hk4)
        go_end0
        have hd := sym_done (X := X) (by omega) (by omega) (by have := Hrot.out.t.len; omega) Hcr.out HtY.out HuY.out HtZ.out HuZ.out
        exact ⟨rfl, Z, Hrot.out.t.trans hd.1, hd.2, Hrow4.out, Hk3.out.same Hk4.out⟩
       ·have huZ : Upto Y mid b := by
         have e1 := Hrr.out
         by_cases hB3 : mid < fin
         ·exact (e1.1.sub (Nat.le_refl _) (by omega)).eq fun t h1 h2 => HtY.out.out t (.inr h1)
         ·exact (e1.2.sub (by omega) (Nat.le_refl _)).eq fun t h1 h2 => HtY.out.out t (.inr h1)
        have HuZ := Lib.hid huZ; clear huZ
        by_cases hB3 : (mid : Int) < (fin : Int)
        ·have hB4 : ¬ (fin : Int) < (b : Int) := by omega
         go_wp2
         go_end0
         have hd := sym_done (X := X) (by omega) (by omega) (by have := Hrot.out.t.len; omega) Hcr.out HtY.out HuY.out (Turned.refl _ _ _) HuZ.out
         exact ⟨rfl, Y, Hrot.out.t.trans hd.1, hd.2, Hrow3.out, Hk3.out⟩
        ·go_wp2
         go_end0
         have hd := sym_done (X := X) (by omega) (by omega) (by have := Hrot.out.t.len; omega) Hcr.out HtY.out HuY.out (Turned.refl _ _ _) HuZ.out
         exact ⟨rfl, Y, Hrot.out.t.trans hd.1, hd.2, Hrow3.out, Hk3.out⟩
      ·skip
       by_cases hB : fin < b ∧ mid < fin
       ·have hB1 : (mid : Int) < (fin : Int) := by omega
        have hB2 : (fin : Int) < (b : Int) := by omega
        have hcB := Ih.out mid fin b n cap g Y w3 (by omega) Hrow3.out (by omega) (by omega) hbn (fun x hx => Hok.out x (Hrot.out.t.alike.mem (HtY.out.alike.mem hx))) hn
         ((Hrr.out.1.eq fun t h1 h2 => HtY.out.out t (.inr h1))) ((Hrr.out.2.eq fun t h1 h2 => HtY.out.out t (.inr (by omega))))
        have HcB := Lib.hid hcB; clear hcB
        go_wp2_with (go_at_call 87; (with_reducible refine HcB.out.mono ?_); rintro e w4 ⟨rfl, Z, htZ, huZ, hrow4, hk4⟩; have HtZ := Lib.hid htZ; have HuZ := Lib.hid huZ; have Hrow4 := Lib.hid hrow4; have Hk4 := Lib.hid hk4; clear htZ huZ hrow4 hk4)
        go_end0
        have hd := sym_done (X := X) (by omega) (by omega) (by have := Hrot.out.t.len; omega) Hcr.out HtY.out HuY.out HtZ.out HuZ.out
        exact ⟨rfl, Z, Hrot.out.t.trans hd.1, hd.2, Hrow4.out, Hk3.out.same Hk4.out⟩
       ·have huZ : Upto Y mid b := by
         have e1 := Hrr.out
         by_cases hB3 : mid < fin
         ·exact (e1.1.sub (Nat.le_refl _) (by omega)).eq fun t h1 h2 => HtY.out.out t (.inr h1)
         ·exact (e1.2.sub (by omega) (Nat.le_refl _)).eq fun t h1 h2 => HtY.out.out t (.inr h1)
        have HuZ := Lib.hid huZ; clear huZ
        by_cases hB3 : (mid : Int) < (fin : Int)
        ·have hB4 : ¬ (fin : Int) < (b : Int) := by omega
         go_wp2
         go_end0
         have hd := sym_done (X := X) (by omega) (by omega) (by have := Hrot.out.t.len; omega) Hcr.out HtY.out HuY.out (Turned.refl _ _ _) HuZ.out
         exact ⟨rfl, Y, Hrot.out.t.trans hd.1, hd.2, Hrow3.out, Hk3.out⟩
        ·go_wp2
         go_end0
         have hd := sym_done (X := X) (by omega) (by omega) (by have := Hrot.out.t.len; omega) Hcr.out HtY.out HuY.out (Turned.refl _ _ _) HuZ.out
         exact ⟨rfl, Y, Hrot.out.t.trans hd.1, hd.2, Hrow3.out, Hk3.out⟩
    ·skip
     have hrl := Hrot.out.left Hsym.out H1.out H2.out
     have hrr := Hrot.out.right Hsym.out H1.out H2.out
     have hcr := Hrot.out.cross Hsym.out H1.out H2.out
     obtain ⟨Hrl, Hrr, Hcr⟩ := hid3 hrl hrr hcr; clear hcr hrr hrl
     by_cases hA : a < j ∧ j < mid
     ·have hA1 : (a : Int) < (j : Int) := by omega
      have hA2 : (j : Int) < (mid : Int) := by omega
      have hcA := Ih.out a j mid n cap g X w2 (by omega) Hrow2.out (by omega) (by omega) (by omega) (fun x hx => Hok.out x (Hrot.out.t.alike.mem hx)) hn Hrl.out.1 Hrl.out.2
      have HcA := Lib.hid hcA; clear hcA
      go_wp2_with (first | (go_at_call 87; (with_reducible refine HcA.out.mono ?_); rintro e w3 ⟨rfl, Y, htY, huY, hrow3, hk3⟩; have HtY := Lib.hid htY; have HuY := Lib.hid huY; have Hrow3 := Lib.hid hrow3; have Hk3 := Lib.hid (Hk2.out.same hk3); clear htY huY hrow3 hk3; refine halt ?_))
      refine Lib.hid ?_
      by_cases hB : fin < b ∧ mid < fin
      ·have hB1 : (mid : Int) < (fin : Int) := by omega
       have hB2 : (fin : Int) < (b : Int) := by omega
       have hcB := Ih.out mid fin b n cap g Y w3 (by omega) Hrow3.out (by omega) (by omega) hbn (fun x hx => Hok.out x (Hrot.out.t.alike.mem (HtY.out.alike.mem hx))) hn
        ((Hrr.out.1.eq fun t h1 h2 => HtY.out.out t (.inr h1))) ((Hrr.out.2.eq fun t h1 h2 => HtY.out.out t (.inr (by omega))))
       have HcB := Lib.hid hcB; clear hcB
       go_wp2_with (go_at_call 87; (with_reducible refine HcB.out.mono ?_); rintro e w4 ⟨rfl, Z, htZ, huZ, hrow4, hk4⟩; have HtZ := Lib.hid htZ; have HuZ := Lib.hid huZ; have Hrow4 := Lib.hid hrow4; have Hk4 := Lib.hid hk4; clear htZ huZ hrow4 hk4)
       go_end0
       have hd := sym_done (X := X) (by omega) (by omega) (by have := Hrot.out.t.len; omega) Hcr.out HtY.out HuY.out HtZ.out HuZ.out
       exact ⟨rfl, Z, Hrot.out.t.trans hd.1, hd.2, Hrow4.out, Hk3.out.same Hk4.out⟩
      ·have huZ : Upto Y mid b := by
        have e1 := Hrr.out
        by_cases hB3 : mid < fin
        ·exact (e1.1.sub (Nat.le_refl _) (by omega)).eq fun t h1 h2 => HtY.out.out t (.inr h1)
        ·exact (e1.2.sub (by omega) (Nat.le_refl _)).eq fun t h1 h2 => HtY.out.out t (.inr h1)
       have HuZ := Lib.hid huZ; clear huZ
       by_cases hB3 : (mid : Int) < (fin : Int)
       ·have hB4 : ¬ (fin : Int) < (b : Int) := by omega
        go_wp2
        go_end0
        have hd := sym_done (X := X) (by omega) (by omega) (by have := Hrot.out.t.len; omega) Hcr.out HtY.out HuY.out (Turned.refl _ _ _) HuZ.out
        exact ⟨rfl, Y, Hrot.out.t.trans hd.1, hd.2, Hrow3.out, Hk3.out⟩
       ·go_wp2
        go_end0
        have hd := sym_done (X := X) (by omega) (by omega) (by have := Hrot.out.t.len; omega) Hcr.out HtY.out HuY.out (Turned.refl _ _ _) HuZ.out
        exact ⟨rfl, Y, Hrot.out.t.trans hd.1, hd.2, Hrow3.out, Hk3.out⟩
     ·have huY : Upto X a mid := by
       by_cases hA3 : a < j
       ·exact Hrl.out.1.sub (Nat.le_refl _) (by omega)
       ·exact Hrl.out.2.sub (by omega) (Nat.le_refl _)
      obtain ⟨Y, hY⟩ : ∃ Y, Y = X := ⟨_, rfl⟩
      obtain ⟨w3, hw3⟩ : ∃ w3, w3 = w2 := ⟨_, rfl⟩
      have htY : Turned X Y a mid := by rw [hY]; exact Turned.refl _ _ _
      have hrow3 : RowE w3 g n cap Y := by rw [hY, hw3]; exact Hrow2.out
      have hk3 : Keeps (fun i => i = g) w w3 := by rw [hw3]; exact Hk2.out
      rw [← hY] at huY
      rw [← hw3]
      obtain ⟨HuY, HtY, Hrow3, Hk3, HY, Hw3⟩ := hid6 huY htY hrow3 hk3 hY hw3; clear hw3 hY hk3 hrow3 htY huY
      by_cases hA3 : (a : Int) < (j : Int)
      ·have hA4 : ¬ (j : Int) < (mid : Int) := by omega
       by_cases hB : fin < b ∧ mid < fin
       ·have hB1 : (mid : Int) < (fin : Int) := by omega
        have hB2 : (fin : Int) < (b : Int) := by omega
        have hcB := Ih.out mid fin b n cap g Y w3 (by omega) Hrow3.out (by omega) (by omega) hbn (fun x hx => Hok.out x (Hrot.out.t.alike.mem (HtY.out.alike.mem hx))) hn
         ((Hrr.out.1.eq fun t h1 h2 => HtY.out.out t (.inr h1))) ((Hrr.out.2.eq fun t h1 h2 => HtY.out.out t (.inr (by omega))))
        have HcB := Lib.hid hcB; clear hcB
        go_wp2_with (go_at_call 87; (with_reducible refine HcB.out.mono ?_); rintro e w4 ⟨rfl, Z, htZ, huZ, hrow4, hk4⟩; have HtZ := Lib.hid htZ; have HuZ := Lib.hid huZ; have Hrow4 := Lib.hid hrow4; have Hk4 := Lib.hid hk4; clear htZ huZ hrow4 hk4)
        go_end0
        have hd := sym_done (X := X) (by omega) (by omega) (by have := Hrot.out.t.len; omega) Hcr.out HtY.out HuY.out HtZ.out HuZ.out
        exact ⟨rfl, Z, Hrot.out.t.trans hd.1, hd.2, Hrow4.out, Hk3.out.same Hk4.out⟩
       ·have huZ : Upto Y mid b := by
         have e1 := Hrr.out
         by_cases hB3 : mid < fin
         ·exact (e1.1.sub (Nat.le_refl _) (by omega)).eq fun t h1 h2 => HtY.out.out t (.inr h1)
         ·exact (e1.2.sub (by omega) (Nat.le_refl _)).eq fun t h1 h2 => HtY.out.out t (.inr h1)
        have HuZ := Lib.hid huZ; clear huZ
        by_cases hB3 : (mid : Int) < (fin : Int)
        ·have hB4 : ¬ (fin : Int) < (b : Int) := by omega
         go_wp2
         go_end0
         have hd := sym_done (X := X) (by omega) (by omega) (by have := Hrot.out.t.len; omega) Hcr.out HtY.out HuY.out (Turned.refl _ _ _) HuZ.out
         exact ⟨rfl, Y, Hrot.out.t.trans hd.1, hd.2, Hrow3.out, Hk3.out⟩
        ·go_wp2
         go_end0
         have hd := sym_done (X := X) (by omega) (by omega) (by have := Hrot.out.t.len; omega) Hcr.out HtY.out HuY.out (Turned.refl _ _ _) HuZ.out
         exact ⟨rfl, Y, Hrot.out.t.trans hd.1, hd.2, Hrow3.out, Hk3.out⟩
      ·skip
       by_cases hB : fin < b ∧ mid < fin
       ·have hB1 : (mid : Int) < (fin : Int) := by omega
        have hB2 : (fin : Int) < (b : Int) := by omega
        have hcB := Ih.out mid fin b n cap g Y w3 (by omega) Hrow3.out (by omega) (by omega) hbn (fun x hx => Hok.out x (Hrot.out.t.alike.mem (HtY.out.alike.mem hx))) hn
         ((Hrr.out.1.eq fun t h1 h2 => HtY.out.out t (.inr h1))) ((Hrr.out.2.eq fun t h1 h2 => HtY.out.out t (.inr (by omega))))
        have HcB := Lib.hid hcB; clear hcB
        go_wp2_with (go_at_call 87; (with_reducible refine HcB.out.mono ?_); rintro e w4 ⟨rfl, Z, htZ, huZ, hrow4, hk4⟩; have HtZ := Lib.hid htZ; have HuZ := Lib.hid huZ; have Hrow4 := Lib.hid hrow4; have Hk4 := Lib.hid hk4; clear htZ huZ hrow4 hk4)
        go_end0
        have hd := sym_done (X := X) (by omega) (by omega) (by have := Hrot.out.t.len; omega) Hcr.out HtY.out HuY.out HtZ.out HuZ.out
        exact ⟨rfl, Z, Hrot.out.t.trans hd.1, hd.2, Hrow4.out, Hk3.out.same Hk4.out⟩
       ·have huZ : Upto Y mid b := by
         have e1 := Hrr.out
         by_cases hB3 : mid < fin
         ·exact (e1.1.sub (Nat.le_refl _) (by omega)).eq fun t h1 h2 => HtY.out.out t (.inr h1)
         ·exact (e1.2.sub (by omega) (Nat.le_refl _)).eq fun t h1 h2 => HtY.out.out t (.inr h1)
        have HuZ := Lib.hid huZ; clear huZ
        by_cases hB3 : (mid : Int) < (fin : Int)
        ·have hB4 : ¬ (fin : Int) < (b : Int) := by omega
         go_wp2
         go_end0
         have hd := sym_done (X := X) (by omega) (by omega) (by have := Hrot.out.t.len; omega) Hcr.out HtY.out HuY.out (Turned.refl _ _ _) HuZ.out
         exact ⟨rfl, Y, Hrot.out.t.trans hd.1, hd.2, Hrow3.out, Hk3.out⟩
        ·go_wp2
         go_end0
         have hd := sym_done (X := X) (by omega) (by omega) (by have := Hrot.out.t.len; omega) Hcr.out HtY.out HuY.out (Turned.refl _ _ _) HuZ.out
         exact ⟨rfl, Y, Hrot.out.t.trans hd.1, hd.2, Hrow3.out, Hk3.out⟩
end Go.Proofs.Ythcmpcekmkioaaa
