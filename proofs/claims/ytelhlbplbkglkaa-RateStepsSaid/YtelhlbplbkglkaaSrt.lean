/- The walks of the library's stable sort at events: the exchange of two runs. -/
import Derived.Test.YtelhlbplbkglkaaSrtPl
import Derived.Test.YtelhlbplbkglkaaDelEv2
namespace Go.Proofs.Ytelhlbplbkglkaa
open Go.RowKit
theorem Keeps.same {S : Nat → Prop} {a b c : World} (h : Keeps S a b) (h' : Keeps S b c) : Keeps S a c := h.trans (h'.mono fun _ _ e => .inl e)
/-- A row of events of one's own. -/
def RowE (w : World) (g n cap : Nat) (X : List Ev) : Prop := w.ownsRow 0 34 5 (.slice (some ⟨g, 0, none⟩) n cap) n (X.flatMap Ev.cells) ∧ X.length = n
theorem RowE.keep {w w' : World} {g n cap : Nat} {X : List Ev} (h : RowE w g n cap X) (hk : Keeps (fun _ => False) w w') : RowE w' g n cap X := ⟨hk.row h.1 (by simp), h.2⟩
theorem RowE.lt {w : World} {g n cap : Nat} {X : List Ev} (h : RowE w g n cap X) : g < w.heap.size := own_lt h.1 rfl
theorem RowE.cells {w : World} {g n cap : Nat} {X : List Ev} (h : RowE w g n cap X) {k : Nat} {x : Ev} (hx : X[k]? = some x) :
    w.cell? ⟨g, k * 5, none⟩ = some (.int .i64 x.kind) ∧ w.cell? ⟨g, k * 5 + 1, none⟩ = some (.int .i64 x.day) ∧ w.cell? ⟨g, k * 5 + 2, none⟩ = some (.int .i64 x.tranche) ∧ w.cell? ⟨g, k * 5 + 3, none⟩ = some (.int .i64 x.amount) ∧ w.cell? ⟨g, k * 5 + 4, none⟩ = some (.int .i64 x.ref) := by
  obtain ⟨h, rfl⟩ := h
  exact ⟨owns_elem Ev.cells_length h hx 0 (by decide), owns_elem Ev.cells_length h hx 1 (by decide), owns_elem Ev.cells_length h hx 2 (by decide), owns_elem Ev.cells_length h hx 3 (by decide), owns_elem Ev.cells_length h hx 4 (by decide)⟩
theorem RowE.free {w : World} {g n cap : Nat} {X : List Ev} (h : RowE w g n cap X) (o : Nat) : w.frozen? ⟨g, o, none⟩ = false := by
  rcases h.1.2 with ⟨h0, _⟩ | ⟨g1, cap1, cur, h0, _, hh, _⟩
  · simp at h0
  · simp only [Value.slice.injEq, Option.some.injEq, Addr.mk.injEq, and_true, true_and] at h0
    obtain ⟨rfl, rfl⟩ := h0
    exact free_of_cells hh o
/-- A world in which one event of a row is overwritten. -/
def putE (w : World) (g k : Nat) (a b c d e : Int) : World := ((((w.setCell ⟨g, k * 5, none⟩ (.int .i64 a)).setCell ⟨g, k * 5 + 1, none⟩ (.int .i64 b)).setCell ⟨g, k * 5 + 2, none⟩ (.int .i64 c)).setCell ⟨g, k * 5 + 3, none⟩ (.int .i64 d)).setCell ⟨g, k * 5 + 4, none⟩ (.int .i64 e)
theorem RowE.put {w : World} {g n cap : Nat} {X : List Ev} (h : RowE w g n cap X) {k : Nat} (hk : k < n) (a b c d e : Int) : RowE (putE w g k a b c d e) g n cap (X.set k ⟨a, b, c, d, e⟩) :=
  ⟨owns_storeEv h.1 h.2 hk a b c d e, by simp [h.2]⟩
theorem putE_keeps (w : World) (g k : Nat) (a b c d e : Int) : Keeps (fun i => i = g) w (putE w g k a b c d e) := (keeps_storeEv w g _ _ _ _ _ _ _ _ _ _).mono fun _ _ h => h.symm
theorem RowE.swp {w : World} {g n cap : Nat} {X : List Ev} (h : RowE w g n cap X) {i j : Nat} {a b c d e a' b' c' d' e' : Int} (hi : X[i]? = some ⟨a, b, c, d, e⟩) (hj : X[j]? = some ⟨a', b', c', d', e'⟩) :
    RowE (putE (putE w g i a' b' c' d' e') g j a b c d e) g n cap (swp X i j) := by
  rw [swp_of hi hj]
  have := lt_of_get hi
  have := lt_of_get hj
  have := h.2
  exact (h.put (by omega) _ _ _ _ _).put (by omega) _ _ _ _ _
/-- Two runs of one length, exchanged, up to a place. -/
structure Sw (L X : List Ev) (a b i : Nat) : Prop where
  len : X.length = L.length
  at' : ∀ t, X[t]? = if a ≤ t ∧ t < a + i then L[t + (b - a)]? else if b ≤ t ∧ t < b + i then L[t - (b - a)]? else L[t]?
theorem Sw.start (L : List Ev) (a b : Nat) : Sw L L a b 0 := ⟨rfl, fun t => by rw [if_neg (by omega), if_neg (by omega)]⟩
theorem Sw.next {L X : List Ev} {a b i : Nat} (h : Sw L X a b i) (hab : a + i < b) (hb : b + i < L.length) : Sw L (swp X (a + i) (b + i)) a b (i + 1) := by
  refine ⟨by rw [swp_length]; exact h.len, fun t => ?_⟩
  have hl := h.len
  rw [swp_get (by omega) (by omega), h.at', h.at', h.at']
  repeat' split
  all_goals first | (exfalso; omega) | rfl | (congr 1; omega)
theorem Sw.done {P U M V S : List Ev} {X : List Ev} {n : Nat} (hU : U.length = n) (hV : V.length = n) (h : Sw (P ++ U ++ M ++ V ++ S) X P.length (P.length + n + M.length) n) : X = P ++ V ++ M ++ U ++ S := by
  refine List.ext_getElem? fun t => ?_
  rw [h.at']
  simp only [List.getElem?_append, List.length_append, hU, hV]
  repeat' split
  all_goals first | (exfalso; omega) | rfl | (congr 1; omega)
set_option maxRecDepth 100000 in
set_option maxHeartbeats 3200000 in
theorem swapEv_go (g n cap a b m : Nat) (L : List Ev) (fv : Value) (w : World) (h : RowE w g n cap L) (hab : a + m ≤ b) (hb : b + m ≤ n) (hn : n ≤ 1000000) :
    Calls Try.prog 73 #[.slice (some ⟨g, 0, none⟩) n cap, .int .i64 a, .int .i64 b, .int .i64 m, fv] w fun e w' => e = .returned (.tuple #[]) ∧ ∃ X, Sw L X a b m ∧ RowE w' g n cap X ∧ Keeps (fun i => i = g) w w' := by
  have H := Lib.hid h; clear h
  go_enter Try.func73, Try.ntmps73
  go_wp2
  go_loopw [10] (fun x wx => ∃ (i : Nat) (X : List Ev), x = .int .i64 (i : Nat) ∧ i ≤ m ∧ Sw L X a b i ∧ RowE wx g n cap X ∧ Keeps (fun i => i = g) w wx) (fun x _ => m - (intOf x).toNat)
  case atStart => exact ⟨0, L, rfl, Nat.zero_le _, Sw.start _ _ _, H.out, Keeps.refl _ _⟩
  case round =>
    obtain ⟨i, X, rfl, him, hsw, hrow, hk⟩ := hrel
    by_cases hlt : i < m
    · have hltI : (i : Int) < (m : Int) := by omega
      have hXn := hrow.2
      have hLn := H.out.2
      obtain ⟨⟨x0, x1, x2, x3, x4⟩, hx⟩ := get_some (L := X) (k := a + i) (by omega)
      obtain ⟨⟨y0, y1, y2, y3, y4⟩, hy⟩ := get_some (L := X) (k := b + i) (by omega)
      obtain ⟨c0, c1, c2, c3, c4⟩ := hrow.cells hx
      obtain ⟨d0, d1, d2, d3, d4⟩ := hrow.cells hy
      have hnext := hsw.next (by omega) (by omega)
      have hrow' := (hrow.swp hx hy).keep (Keeps.drew _)
      have hk2 := hk.same (((putE_keeps wr g (a + i) y0 y1 y2 y3 y4).same (putE_keeps _ g (b + i) x0 x1 x2 x3 x4)).same (Keeps.drew _))
      have fa0 : wr.frozen? ⟨g, (a + i) * 5, none⟩ = false := hrow.free _
      have fa1 : wr.frozen? ⟨g, (a + i) * 5 + 1, none⟩ = false := hrow.free _
      have fa2 : wr.frozen? ⟨g, (a + i) * 5 + 2, none⟩ = false := hrow.free _
      have fa3 : wr.frozen? ⟨g, (a + i) * 5 + 3, none⟩ = false := hrow.free _
      have fa4 : wr.frozen? ⟨g, (a + i) * 5 + 4, none⟩ = false := hrow.free _
      have fb0 : wr.frozen? ⟨g, (b + i) * 5, none⟩ = false := hrow.free _
      have fb1 : wr.frozen? ⟨g, (b + i) * 5 + 1, none⟩ = false := hrow.free _
      have fb2 : wr.frozen? ⟨g, (b + i) * 5 + 2, none⟩ = false := hrow.free _
      have fb3 : wr.frozen? ⟨g, (b + i) * 5 + 3, none⟩ = false := hrow.free _
      have fb4 : wr.frozen? ⟨g, (b + i) * 5 + 4, none⟩ = false := hrow.free _
      have hp0 : (0 : Int) ≤ (a : Int) + i := by omega
      have hp1 : (a : Int) + i < n := by omega
      have hq0 : (0 : Int) ≤ (b : Int) + i := by omega
      have hq1 : (b : Int) + i < n := by omega
      have e1 : ((a : Int) + i).toNat = a + i := by omega
      have e2 : ((b : Int) + i).toNat = b + i := by omega
      unfold putE at hrow' hk2
      have Hsw := Lib.hid hsw; clear hsw; have Hrow := Lib.hid hrow; clear hrow; have Hx := Lib.hid hx; clear hx; have Hy := Lib.hid hy; clear hy; have Hnext := Lib.hid hnext; clear hnext; have Hrow' := Lib.hid hrow'; clear hrow'; have Hk := Lib.hid hk; clear hk; have Hk2 := Lib.hid hk2; clear hk2
      go_wp2_with fail
      go_region
      all_goals go_wp2_with fail
      all_goals go_roundw
      case rel => exact ⟨i + 1, _, by go_num, by omega, Hnext.out, Hrow'.out, Hk2.out⟩
      case measure => simp [intOf]; omega
    · go_wp2
      go_end0
      obtain rfl : i = m := by omega
      exact ⟨rfl, X, hsw, hrow, hk⟩
theorem swapEv_any (P U M V S : List Ev) (g n cap : Nat) (fv : Value) (x y z : Int) (w : World) (h : RowE w g n cap (P ++ U ++ M ++ V ++ S)) (hUV : V.length = U.length) (hn : n ≤ 1000000) (hx : x = P.length) (hy : y = ((P.length + U.length + M.length : Nat) : Int)) (hz : z = U.length) :
    Calls Try.prog 73 #[.slice (some ⟨g, 0, none⟩) n cap, .int .i64 x, .int .i64 y, .int .i64 z, fv] w fun e w' => e = .returned (.tuple #[]) ∧ RowE w' g n cap (P ++ V ++ M ++ U ++ S) ∧ Keeps (fun i => i = g) w w' := by
  have hl := h.2
  simp only [List.length_append, hUV] at hl
  subst hx hy hz
  refine (swapEv_go g n cap _ _ _ _ fv w h (by omega) (by omega) hn).mono ?_
  rintro e w' ⟨he, X, hX, hr, hk⟩
  rw [Sw.done rfl hUV hX] at hr
  exact ⟨he, hr, hk⟩
set_option maxRecDepth 100000 in
set_option maxHeartbeats 3200000 in
theorem rotEv_any (P U V S : List Ev) (g n cap a m b : Nat) (fv : Value) (w : World) (h : RowE w g n cap (P ++ U ++ V ++ S)) (hU : U ≠ []) (hV : V ≠ []) (hn : n ≤ 1000000) (ha : a = P.length) (hm : m = P.length + U.length) (hb : b = P.length + U.length + V.length) :
    Calls Try.prog 72 #[.slice (some ⟨g, 0, none⟩) n cap, .int .i64 a, .int .i64 m, .int .i64 b, fv] w fun e w' => e = .returned (.tuple #[]) ∧ RowE w' g n cap (P ++ V ++ U ++ S) ∧ Keeps (fun i => i = g) w w' := by
  have hU0 : 0 < U.length := List.length_pos_iff.2 hU
  have hV0 : 0 < V.length := List.length_pos_iff.2 hV
  have hl := h.2
  simp only [List.length_append] at hl
  have hma : (m : Int) - a = (U.length : Nat) := by omega
  have hbm : (b : Int) - m = (V.length : Nat) := by omega
  have hbn : b ≤ n := by omega
  have ham : a < m := by omega
  have hmb : m < b := by omega
  obtain ⟨G, hG⟩ : ∃ G, P ++ V ++ U ++ S = G := ⟨_, rfl⟩
  rw [hG]
  have H := Lib.hid h; clear h; have HG := Lib.hid hG; clear hG; have Ha := Lib.hid ha; clear ha; have Hm := Lib.hid hm; clear hm; have Hb := Lib.hid hb; clear hb; have Hl := Lib.hid hl; clear hl; have HU := Lib.hid hU; clear hU; have HV := Lib.hid hV; clear hV
  go_enter Try.func72, Try.ntmps72
  go_wp2
  go_loopw [10, 11] (fun x y wx => ∃ (i j : Nat) (P' U' V' S' : List Ev), x = .int .i64 (i : Nat) ∧ y = .int .i64 (j : Nat) ∧ U'.length = i ∧ V'.length = j ∧ P'.length + i = m ∧ 0 < i ∧ 0 < j ∧ m + j ≤ b ∧ P' ++ V' ++ U' ++ S' = G ∧ RowE wx g n cap (P' ++ U' ++ V' ++ S') ∧ Keeps (fun i => i = g) w wx) (fun x y _ => (intOf x).toNat + (intOf y).toNat)
  case atStart => exact ⟨U.length, V.length, P, U, V, S, by go_num, by go_num, rfl, rfl, Hm.out.symm, hU0, hV0, by have := Hb.out; have := Hm.out; omega, HG.out, H.out, Keeps.refl _ _⟩
  case round =>
    obtain ⟨i, j, P', U', V', S', rfl, rfl, hu, hv, hp, hi, hj, hmj, hg, hrow, hk⟩ := hrel
    have him : i ≤ m := by omega
    by_cases hij : i = j
    · subst hij
      have hrow1 : RowE wr g n cap (P' ++ U' ++ [] ++ V' ++ S') := by simpa using hrow
      have hc := swapEv_any P' U' [] V' S' g n cap fv ((m : Int) - i) m i wr hrow1 (by omega) hn (by omega) (by simp only [List.length_nil]; omega) (by omega)
      simp only [List.append_nil, hg] at hc
      have Hrow := Lib.hid hrow; clear hrow; have Hrow1 := Lib.hid hrow1; clear hrow1; have Hc := Lib.hid hc; clear hc; have Hg := Lib.hid hg; clear hg; have Hk := Lib.hid hk; clear hk; have Hu := Lib.hid hu; clear hu; have Hv := Lib.hid hv; clear hv; have Hp := Lib.hid hp; clear hp
      go_wp2_with (go_at_call 73; (with_reducible refine Hc.out.mono ?_); rintro e w1 ⟨rfl, hr1, hk1⟩; have Hr1 := Lib.hid hr1; have Hk1 := Lib.hid hk1; clear hr1 hk1)
      go_end0
      exact ⟨rfl, Hr1.out, Hk.out.same Hk1.out⟩
    · by_cases hlt : j < i
      · obtain ⟨U1, U2, rfl, hu1⟩ : ∃ U1 U2, U' = U1 ++ U2 ∧ U1.length = j := ⟨U'.take j, U'.drop j, (List.take_append_drop _ _).symm, by rw [List.length_take]; omega⟩
        rw [List.length_append] at hu
        have hrow1 : RowE wr g n cap (P' ++ U1 ++ U2 ++ V' ++ S') := by simpa using hrow
        have hc := swapEv_any P' U1 U2 V' S' g n cap fv ((m : Int) - i) m j wr hrow1 (by omega) hn (by omega) (by omega) (by omega)
        have hg' : (P' ++ V') ++ U1 ++ U2 ++ S' = G := by rw [← hg]; simp
        have hltI : (j : Int) < i := by omega
        have hneI : ((i : Int) == j) = false := by simp; omega
        have Hrow := Lib.hid hrow; clear hrow; have Hrow1 := Lib.hid hrow1; clear hrow1; have Hc := Lib.hid hc; clear hc; have Hg := Lib.hid hg; clear hg; have Hg' := Lib.hid hg'; clear hg'; have Hk := Lib.hid hk; clear hk; have Hu := Lib.hid hu; clear hu; have Hv := Lib.hid hv; clear hv; have Hp := Lib.hid hp; clear hp; have Hu1 := Lib.hid hu1; clear hu1
        go_wp2_with (go_at_call 73; (with_reducible refine Hc.out.mono ?_); rintro e w1 ⟨rfl, hr1, hk1⟩; have Hr1 := Lib.hid hr1; have Hk1 := Lib.hid hk1; clear hr1 hk1)
        go_roundw
        case rel => exact ⟨i - j, j, P' ++ V', U2, U1, S', by go_num, rfl, by have := Hu.out; have := Hu1.out; omega, Hu1.out, by rw [List.length_append, Hv.out]; have := Hp.out; omega, by omega, hj, hmj, Hg'.out, Hr1.out, Hk.out.same Hk1.out⟩
        case measure => simp [intOf]; omega
      · obtain ⟨V1, V2, rfl, hv1⟩ : ∃ V1 V2, V' = V1 ++ V2 ∧ V2.length = i := ⟨V'.take (j - i), V'.drop (j - i), (List.take_append_drop _ _).symm, by rw [List.length_drop]; omega⟩
        rw [List.length_append] at hv
        have hrow1 : RowE wr g n cap (P' ++ U' ++ V1 ++ V2 ++ S') := by simpa using hrow
        have hc := swapEv_any P' U' V1 V2 S' g n cap fv ((m : Int) - i) ((m : Int) + j - i) i wr hrow1 (by omega) hn (by omega) (by omega) (by omega)
        have hg' : P' ++ V1 ++ V2 ++ (U' ++ S') = G := by rw [← hg]; simp
        have hr' : ∀ w1, RowE w1 g n cap (P' ++ V2 ++ V1 ++ U' ++ S') → RowE w1 g n cap (P' ++ V2 ++ V1 ++ (U' ++ S')) := fun w1 h => by simpa using h
        have hltI : (i : Int) < j := by omega
        have hneI : ((i : Int) == j) = false := by simp; omega
        have Hrow := Lib.hid hrow; clear hrow; have Hrow1 := Lib.hid hrow1; clear hrow1; have Hc := Lib.hid hc; clear hc; have Hg := Lib.hid hg; clear hg; have Hg' := Lib.hid hg'; clear hg'; have Hk := Lib.hid hk; clear hk; have Hu := Lib.hid hu; clear hu; have Hv := Lib.hid hv; clear hv; have Hp := Lib.hid hp; clear hp; have Hv1 := Lib.hid hv1; clear hv1; have Hr' := Lib.hid hr'; clear hr'
        go_wp2_with (go_at_call 73; (with_reducible refine Hc.out.mono ?_); rintro e w1 ⟨rfl, hr1, hk1⟩; have Hr1 := Lib.hid hr1; have Hk1 := Lib.hid hk1; clear hr1 hk1)
        go_roundw
        case rel => exact ⟨i, j - i, P', V2, V1, U' ++ S', rfl, by go_num, Hv1.out, by have := Hv.out; have := Hv1.out; omega, Hp.out, hi, by omega, by omega, Hg'.out, Hr'.out _ Hr1.out, Hk.out.same Hk1.out⟩
        case measure => simp [intOf]; omega
end Go.Proofs.Ytelhlbplbkglkaa
