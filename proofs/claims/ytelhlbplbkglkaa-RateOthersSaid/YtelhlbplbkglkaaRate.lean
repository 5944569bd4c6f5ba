/- The walks of the rate layer: a tranche's changes, sorted. -/
import Derived.Test.YtelhlbplbkglkaaRatePl
import Derived.Test.YtelhlbplbkglkaaDelEv2
import Derived.Test.YtelhlbplbkglkaaSrt8
namespace Go.Proofs.Ytelhlbplbkglkaa
open Go.RowKit
set_option maxRecDepth 100000 in
set_option maxHeartbeats 800000 in
theorem rateTurns1_any (tr : Int) (B : Nat) (x : Ev) (w : World) (hB : w.cell? ⟨B, 0, none⟩ = some (.int .i64 tr)) : Calls Try.prog 69 #[x.agg, (.pointer (some ⟨B, 0, none⟩))] w fun e w' => e = .returned (.bool (!rateQ tr x)) ∧ Keeps (fun _ => False) w w' := by
  obtain ⟨ki, da, t, am, re⟩ := x
  simp only [Ev.agg]
  have hBl := cell_lt hB
  by_cases h6 : ki = 6
  · subst h6
    by_cases ht : t = tr
    · subst ht
      have hf : (!rateQ t ⟨6, da, t, am, re⟩) = false := by simp [rateQ]
      have Hf := Lib.hid hf; clear hf
      go_enter Try.func69, Try.ntmps69
      go_wp2
      go_ret
      exact ⟨by rw [Hf.out]; rfl, by (repeat (first | exact Keeps.refl _ _ | exact Keeps.alloc _ _ | exact Keeps.drew _ | exact Keeps.drewN _ _ | refine Keeps.trans_drew ?_ | refine Keeps.trans_drewN ?_ | refine Keeps.trans_alloc ?_))⟩
    · have hf : (!rateQ tr ⟨6, da, t, am, re⟩) = true := by simp [rateQ, ht]
      have hb : (t != tr) = true := by simp [ht]
      have Hf := Lib.hid hf; clear hf
      go_enter Try.func69, Try.ntmps69
      go_wp2
      go_ret
      exact ⟨by rw [Hf.out]; rfl, by (repeat (first | exact Keeps.refl _ _ | exact Keeps.alloc _ _ | exact Keeps.drew _ | exact Keeps.drewN _ _ | refine Keeps.trans_drew ?_ | refine Keeps.trans_drewN ?_ | refine Keeps.trans_alloc ?_))⟩
  · have hf : (!rateQ tr ⟨ki, da, t, am, re⟩) = true := by simp [rateQ, h6]
    have hb : (ki != 6) = true := by simp [h6]
    have Hf := Lib.hid hf; clear hf
    go_enter Try.func69, Try.ntmps69
    go_wp2
    go_ret
    exact ⟨by rw [Hf.out]; rfl, by (repeat (first | exact Keeps.refl _ _ | exact Keeps.alloc _ _ | exact Keeps.drew _ | exact Keeps.drewN _ _ | refine Keeps.trans_drew ?_ | refine Keeps.trans_drewN ?_ | refine Keeps.trans_alloc ?_))⟩
def dayOk (x : Ev) : Prop := -1000000000 ≤ x.day ∧ x.day ≤ 1000000000
set_option maxRecDepth 100000 in
set_option maxHeartbeats 800000 in
theorem rateTurns2_any (x y : Ev) (w : World) (hx : dayOk x) (hy : dayOk y) : Calls Try.prog 70 #[x.agg, y.agg] w fun e w' => ∃ z, e = .returned (.int .i64 z) ∧ (z < 0 ↔ x.day < y.day) ∧ Keeps (fun _ => False) w w' := by
  obtain ⟨x0, x1, x2, x3, x4⟩ := x
  obtain ⟨y0, y1, y2, y3, y4⟩ := y
  unfold dayOk at hx hy
  simp only at hx hy
  simp only [Ev.agg]
  have q : IntKind.i64.wrap (x1 - y1) = x1 - y1 := IntWalk.i64_in _ ⟨by omega, by omega⟩
  go_enter Try.func70, Try.ntmps70
  go_wp2
  go_ret
  exact ⟨_, rfl, by show x1 - y1 < 0 ↔ x1 < y1; omega, by (repeat (first | exact Keeps.refl _ _ | exact Keeps.alloc _ _ | exact Keeps.drew _ | exact Keeps.drewN _ _ | refine Keeps.trans_drew ?_ | refine Keeps.trans_drewN ?_ | refine Keeps.trans_alloc ?_))⟩
theorem rateTurns2_by : CmpBy 70 dayOk := ⟨enters_of Try.func70 (by kernel_rfl) rfl, fun x y W hx hy => rateTurns2_any x y W hx hy⟩
set_option maxRecDepth 100000 in
set_option maxHeartbeats 800000 in
theorem indexEv_rate (B : Nat) (q : Ev → Bool) (ad : Option Addr) (cap : Nat) (L : List Ev) (w : World) (hr : Reads w 5 (.slice ad L.length cap) L.length (L.flatMap Ev.cells)) (hl : L.length ≤ 1000000)
    (hq : ∀ W (x : Ev), Keeps (fun _ => False) w W → Calls Try.prog 69 #[x.agg, (.pointer (some ⟨B, 0, none⟩))] W fun e w' => e = .returned (.bool (q x)) ∧ Keeps (fun _ => False) W w') :
    Calls Try.prog 66 #[.slice ad L.length cap, .func (.func 69) #[] #[(.pointer (some ⟨B, 0, none⟩))]] w fun e w' => e = .returned (.int .i64 (retI (L.findIdx? q))) ∧ Keeps (fun _ => False) w w' := by
  obtain ⟨n, hn⟩ : ∃ n, L.length = n := ⟨_, rfl⟩
  obtain ⟨r, hrr⟩ : ∃ r, retI (L.findIdx? q) = r := ⟨_, rfl⟩
  rw [hrr]
  rw [hn] at hr hl ⊢
  have Hr := Lib.hid hr; clear hr; have Hq := Lib.hid hq; clear hq; have Hrr := Lib.hid hrr; clear hrr; have Hn := Lib.hid hn; clear hn
  go_enter Try.func66, Try.ntmps66
  go_wp2_with fail
  go_loopw [8] (fun c wx => ∃ j : Nat, j ≤ n ∧ c = .int .i64 (j : Nat) ∧ (∀ i y, i < j → L[i]? = some y → q y = false) ∧ Keeps (fun _ => False) w wx) (fun c _ => n - (intOf c).toNat)
  case atStart => exact ⟨0, Nat.zero_le _, rfl, fun i y h => absurd h (Nat.not_lt_zero _), Keeps.refl _ _⟩
  case round =>
    obtain ⟨j, hj, rfl, hno, hkx⟩ := hrel
    by_cases hjl : j < n
    · obtain ⟨x, hx⟩ := get_some (L := L) (k := j) (by rw [Hn.out]; exact hjl)
      have hjI : (j : Int) < (n : Int) := by omega
      obtain ⟨g, o, c, he, hc⟩ := (Hr.out.keeps hkx (by simp)).elem Ev.cells_length hx (by decide)
      simp only [Value.slice.injEq, true_and] at he
      obtain ⟨rfl, rfl⟩ := he
      have hcall := Hq.out wr x hkx
      obtain ⟨qx, hqx⟩ : ∃ b, q x = b := ⟨_, rfl⟩
      rw [hqx] at hcall
      obtain ⟨ki, da, tr, am, re⟩ := x
      have x0 : wr.cell? ⟨g, o + j * 5, none⟩ = some (.int .i64 ki) := hc 0 (by decide)
      have x1 : wr.cell? ⟨g, o + j * 5 + 1, none⟩ = some (.int .i64 da) := hc 1 (by decide)
      have x2 : wr.cell? ⟨g, o + j * 5 + 2, none⟩ = some (.int .i64 tr) := hc 2 (by decide)
      have x3 : wr.cell? ⟨g, o + j * 5 + 3, none⟩ = some (.int .i64 am) := hc 3 (by decide)
      have x4 : wr.cell? ⟨g, o + j * 5 + 4, none⟩ = some (.int .i64 re) := hc 4 (by decide)
      simp only [Ev.agg] at hcall
      clear hc
      rcases qx with _ | _
      · have hno' : ∀ i y, i < j + 1 → L[i]? = some y → q y = false := fun i y hi hy => by
          rcases Nat.lt_or_ge i j with h | h
          · exact hno i y h hy
          · obtain rfl : i = j := by omega
            rw [hx] at hy; cases hy; exact hqx
        have Hno := Lib.hid hno; clear hno; have Hno' := Lib.hid hno'; clear hno'; have Hx := Lib.hid hx; clear hx; have Hqx := Lib.hid hqx; clear hqx; have Hkx := Lib.hid hkx; clear hkx; have Hcall := Lib.hid hcall; clear hcall
        go_wp2_with (go_at_call 69; ((with_reducible refine Hcall.out.mono ?_); rintro e w1 ⟨rfl, hk1⟩; have Hk1 := Lib.hid hk1; clear hk1))
        go_roundw
        case rel => exact ⟨j + 1, by omega, by go_num, Hno'.out, Keeps.nt Hkx.out Hk1.out⟩
        case measure => simp [intOf]; omega
      · have hf := find_snoc hx hno hqx
        have Hno := Lib.hid hno; clear hno; have Hx := Lib.hid hx; clear hx; have Hqx := Lib.hid hqx; clear hqx; have Hkx := Lib.hid hkx; clear hkx; have Hcall := Lib.hid hcall; clear hcall; have Hf := Lib.hid hf; clear hf
        go_wp2_with (go_at_call 69; ((with_reducible refine Hcall.out.mono ?_); rintro e w1 ⟨rfl, hk1⟩; have Hk1 := Lib.hid hk1; clear hk1))
        go_ret
        exact ⟨by rw [← Hrr.out, Hf.out]; rfl, Keeps.nt Hkx.out Hk1.out⟩
    · obtain rfl : j = n := by omega
      have hf := find_no (q := q) (L := L) (fun i y hi hy => hno i y (by rw [Hn.out] at hi; exact hi) hy)
      have Hno := Lib.hid hno; clear hno; have Hkx := Lib.hid hkx; clear hkx; have Hf := Lib.hid hf; clear hf
      go_wp2_with fail
      go_ret
      exact ⟨by rw [← Hrr.out, Hf.out]; rfl, Hkx.out⟩
set_option maxRecDepth 100000 in
set_option maxHeartbeats 3200000 in
theorem delEv_rate (B : Nat) (q : Ev → Bool) (v : Value) (L : List Ev) (w : World) (hr : w.ownsRow 0 34 5 v L.length (L.flatMap Ev.cells)) (hl : L.length ≤ 1000000)
    (hq : ∀ W (x : Ev), Keeps (fun i => v.ownBlock = some i) w W → Calls Try.prog 69 #[x.agg, (.pointer (some ⟨B, 0, none⟩))] W fun e w' => e = .returned (.bool (q x)) ∧ Keeps (fun _ => False) W w') :
    Calls Try.prog 59 #[v, .func (.func 69) #[] #[(.pointer (some ⟨B, 0, none⟩))]] w fun e w' => ∃ v', e = .returned v' ∧ w'.ownsRow 0 34 5 v' (L.filter (fun x => !q x)).length ((L.filter (fun x => !q x)).flatMap Ev.cells) ∧ Keeps (fun i => v.ownBlock = some i) w w' ∧ (∀ g, v'.ownBlock = some g → v.ownBlock = some g) := by
  obtain ⟨ad, cap, rfl, hcap, hcm⟩ := ownsRow_shape hr
  have hidx := indexEv_rate B q ad cap L w (Reads.of_owns hr) hl (fun W x hW => hq W x (hW.mono (by simp)))
  obtain ⟨n, hn⟩ : ∃ n, L.length = n := ⟨_, rfl⟩
  rcases hf : L.findIdx? q with _ | k
  · have hfil := find_none hf
    rw [hf] at hidx
    simp only [retI] at hidx
    rw [hfil]
    rw [hn] at hidx hr hl ⊢
    have Hidx := Lib.hid hidx; clear hidx; have Hr := Lib.hid hr; clear hr; have Hf := Lib.hid hf; clear hf; have Hfil := Lib.hid hfil; clear hfil; have Hn := Lib.hid hn; clear hn; have Hq := Lib.hid hq; clear hq
    go_enter Try.func59, Try.ntmps59
    go_wp2_with (go_at_call 66; ((with_reducible refine Hidx.out.mono ?_); rintro e w1 ⟨rfl, hk1⟩; have Hk1 := Lib.hid hk1; clear hk1))
    go_ret
    exact ⟨_, rfl, Hr.out.of_keeps Hk1.out, Hk1.out.mono (by simp), fun _ h => h⟩
  · have hstart := KeptSt.start hn hf
    have hk : k < n := by have := (List.findIdx?_eq_some_iff_getElem.1 hf).1; omega
    rw [hf] at hidx
    simp only [retI] at hidx
    rw [hn] at hidx hr hl hcap ⊢
    obtain ⟨g, c2, he, hg⟩ := owns_some hr (by omega)
    simp only [Value.slice.injEq, true_and] at he
    obtain ⟨rfl, rfl⟩ := he
    simp only [Value.ownBlock, Option.some.injEq] at hq ⊢
    have hne : ((k : Int) == -1) = false := beq_eq_false_iff_ne.2 (by omega)
    have Hidx := Lib.hid hidx; clear hidx; have Hr := Lib.hid hr; clear hr; have Hf := Lib.hid hf; clear hf; have Hn := Lib.hid hn; clear hn; have Hq := Lib.hid hq; clear hq; have Hstart := Lib.hid hstart; clear hstart
    go_enter Try.func59, Try.ntmps59
    go_wp2_with (go_at_call 66; ((with_reducible refine Hidx.out.mono ?_); rintro e w1 ⟨rfl, hk1⟩; have Hk1 := Lib.hid hk1; clear hk1))
    go_loopw [5, 6] (fun a c wx => ∃ (i j : Nat) (X : List Ev), a = .int .i64 (i : Nat) ∧ c = .int .i64 (j : Nat) ∧ KeptSt q L X n i j ∧ wx.ownsRow 0 34 5 (.slice (some ⟨g, 0, none⟩) n cap) n (X.flatMap Ev.cells) ∧ Keeps (fun i => g = i) w wx) (fun _ c _ => n - (intOf c).toNat)
    case atStart => exact ⟨k, k + 1, L, rfl, by go_num, Hstart.out, Hr.out.of_keeps Hk1.out, Hk1.out.mono (by simp)⟩
    case round =>
      obtain ⟨i, j, X, rfl, rfl, hst, hrow, hkx⟩ := hrel
      have hij := hst.lt
      have hjn := hst.le
      by_cases hjl : j < n
      · have hjI : (j : Int) < (n : Int) := by omega
        have hiI : (i : Int) < (n : Int) := by omega
        obtain ⟨x, hx⟩ := get_some (L := X) (k := j) (by rw [hst.len]; exact hjl)
        have hrowX : wr.ownsRow 0 34 5 (.slice (some ⟨g, 0, none⟩) X.length cap) X.length (X.flatMap Ev.cells) := by rw [hst.len]; exact hrow
        obtain ⟨qx, hqx⟩ : ∃ b, q x = b := ⟨_, rfl⟩
        have hcall : ∀ W, Keeps (fun _ => False) wr W → Calls Try.prog 69 #[x.agg, (.pointer (some ⟨B, 0, none⟩))] W fun e w' => e = .returned (.bool (q x)) ∧ Keeps (fun _ => False) W w' := fun W hW => Hq.out W x (hkx.trans (hW.mono (by simp)))
        rw [hqx] at hcall
        obtain ⟨ki, da, tr, am, re⟩ := x
        have x0 : wr.cell? ⟨g, j * 5, none⟩ = some (.int .i64 ki) := owns_elem Ev.cells_length hrowX hx 0 (by decide)
        have x1 : wr.cell? ⟨g, j * 5 + 1, none⟩ = some (.int .i64 da) := owns_elem Ev.cells_length hrowX hx 1 (by decide)
        have x2 : wr.cell? ⟨g, j * 5 + 2, none⟩ = some (.int .i64 tr) := owns_elem Ev.cells_length hrowX hx 2 (by decide)
        have x3 : wr.cell? ⟨g, j * 5 + 3, none⟩ = some (.int .i64 am) := owns_elem Ev.cells_length hrowX hx 3 (by decide)
        have x4 : wr.cell? ⟨g, j * 5 + 4, none⟩ = some (.int .i64 re) := owns_elem Ev.cells_length hrowX hx 4 (by decide)
        simp only [Ev.agg] at hcall
        have hgl := cell_lt x0
        clear hrowX
        rcases qx with _ | _
        · have hst' := hst.keep hx hqx
          have Hst := Lib.hid hst; clear hst; have Hst' := Lib.hid hst'; clear hst'; have Hx := Lib.hid hx; clear hx; have Hqx := Lib.hid hqx; clear hqx; have Hcall := Lib.hid hcall; clear hcall; have Hrow := Lib.hid hrow; clear hrow; have Hkx := Lib.hid hkx; clear hkx
          go_wp2_with fail
          refine (Hcall.out _ (by (repeat (first | exact Keeps.refl _ _ | exact Keeps.alloc _ _ | exact Keeps.drew _ | exact Keeps.drewN _ _ | refine Keeps.trans_drew ?_ | refine Keeps.trans_drewN ?_ | refine Keeps.trans_alloc ?_)))).mono ?_
          rintro e w2 ⟨rfl, hk2⟩
          have hk3 := Keeps.nt (Keeps.alloc wr (.cells #[.int .i64 ki, .int .i64 da, .int .i64 tr, .int .i64 am, .int .i64 re] 34)) hk2
          have hrow3 := Hrow.out.of_keeps hk3
          have hrowX : w2.ownsRow 0 34 5 (.slice (some ⟨g, 0, none⟩) X.length cap) X.length (X.flatMap Ev.cells) := by rw [Hst.out.len]; exact hrow3
          obtain ⟨⟨yk, yd, yt, ya, yr⟩, hy⟩ := get_some (L := X) (k := i) (by rw [Hst.out.len]; omega)
          have y0 : w2.cell? ⟨g, i * 5, none⟩ = some (.int .i64 yk) := owns_elem Ev.cells_length hrowX hy 0 (by decide)
          have y1 : w2.cell? ⟨g, i * 5 + 1, none⟩ = some (.int .i64 yd) := owns_elem Ev.cells_length hrowX hy 1 (by decide)
          have y2 : w2.cell? ⟨g, i * 5 + 2, none⟩ = some (.int .i64 yt) := owns_elem Ev.cells_length hrowX hy 2 (by decide)
          have y3 : w2.cell? ⟨g, i * 5 + 3, none⟩ = some (.int .i64 ya) := owns_elem Ev.cells_length hrowX hy 3 (by decide)
          have y4 : w2.cell? ⟨g, i * 5 + 4, none⟩ = some (.int .i64 yr) := owns_elem Ev.cells_length hrowX hy 4 (by decide)
          have hfr : ∀ o, w2.frozen? ⟨g, o, none⟩ = false := fun o => by
            rcases hrow3.2 with ⟨h0, _⟩ | ⟨g1, cap1, cur, h0, _, hh, _⟩
            · simp at h0
            · simp only [Value.slice.injEq, Option.some.injEq, Addr.mk.injEq, and_true, true_and] at h0
              obtain ⟨rfl, rfl⟩ := h0
              exact free_of_cells hh o
          have f0 := hfr (i * 5)
          have f1 := hfr (i * 5 + 1)
          have f2 := hfr (i * 5 + 2)
          have f3 := hfr (i * 5 + 3)
          have f4 := hfr (i * 5 + 4)
          have v0 : w2.heap[wr.heap.size]? = some (.cells #[.int .i64 ki, .int .i64 da, .int .i64 tr, .int .i64 am, .int .i64 re] 34 (0, 0)) := box_new hk2 (by simp)
          have vc0 := cell_of_cells v0 0
          have vc1 := cell_of_cells v0 1
          have vc2 := cell_of_cells v0 2
          have vc3 := cell_of_cells v0 3
          have vc4 := cell_of_cells v0 4
          have hnew := owns_storeEv hrow3 Hst.out.len (k := i) (by omega) ki da tr am re
          clear hrowX hfr
          have Hk3 := Lib.hid hk3; clear hk3; have Hrow3 := Lib.hid hrow3; clear hrow3; have Hy := Lib.hid hy; clear hy; have V0 := Lib.hid v0; clear v0; have Hnew := Lib.hid hnew; clear hnew
          clear hk2
          go_wp2_with fail
          go_roundw
          case rel => exact ⟨i + 1, j + 1, X.set i ⟨ki, da, tr, am, re⟩, by go_num, by go_num, Hst'.out, Hnew.out, Hkx.out.trans (((Hk3.out.mono (by simp)).trans ((keeps_storeEv w2 g _ _ _ _ _ _ _ _ _ _).mono fun _ _ h => .inl h)).mono fun _ _ h => .inl h)⟩
          case measure => simp [intOf]; omega
        · have hst' := hst.skip hx hqx
          have Hst := Lib.hid hst; clear hst; have Hst' := Lib.hid hst'; clear hst'; have Hx := Lib.hid hx; clear hx; have Hqx := Lib.hid hqx; clear hqx; have Hcall := Lib.hid hcall; clear hcall; have Hrow := Lib.hid hrow; clear hrow; have Hkx := Lib.hid hkx; clear hkx
          go_wp2_with fail
          refine (Hcall.out _ (by (repeat (first | exact Keeps.refl _ _ | exact Keeps.alloc _ _ | exact Keeps.drew _ | exact Keeps.drewN _ _ | refine Keeps.trans_drew ?_ | refine Keeps.trans_drewN ?_ | refine Keeps.trans_alloc ?_)))).mono ?_
          rintro e w2 ⟨rfl, hk2⟩
          have hk3 := Keeps.nt (Keeps.alloc wr (.cells #[.int .i64 ki, .int .i64 da, .int .i64 tr, .int .i64 am, .int .i64 re] 34)) hk2
          have Hk3 := Lib.hid hk3; clear hk3
          clear hk2
          go_wp2_with fail
          go_roundw
          case rel => exact ⟨i, j + 1, X, rfl, by go_num, Hst'.out, Hrow.out.of_keeps Hk3.out, Hkx.out.trans (Hk3.out.mono (by simp))⟩
          case measure => simp [intOf]; omega
      · obtain rfl : j = n := by omega
        have hin : i < j := hij
        have hcl : ∀ ty, ∃ vs : List Value, (Builtin.clear_ #[35] ty #[.slice (some ⟨g, i * 5, none⟩) (j - i) (cap - i)]).run Try.prog wr = .ok (.tuple #[]) (wr.setCells g (i * 5) vs) := fun ty => run_clear_ev wr ty g i j (cap - i) cap _ hrow hin
        have hiI : (i : Int) ≤ (j : Int) := by omega
        obtain ⟨vs, hcl1⟩ := hcl 0
        have hci : ¬ cap = i := by omega
        have hiC : (i : Int) ≤ (cap : Int) := by omega
        have hiC2 : i ≤ cap := by omega
        have hdone := hst.done Hn.out
        have hrd := cleared_owns hrow hst.len hst.cnt vs
        rw [hdone] at hrd
        have hlen : (L.filter (fun x => !q x)).length = i := by rw [← hdone, List.length_take, hst.len]; omega
        clear hcl
        have Hst := Lib.hid hst; clear hst; have Hrow := Lib.hid hrow; clear hrow; have Hkx := Lib.hid hkx; clear hkx; have Hdone := Lib.hid hdone; clear hdone; have Hrd := Lib.hid hrd; clear hrd; have Hlen := Lib.hid hlen; clear hlen
        go_wp2_with fail
        go_ret
        exact ⟨_, rfl, by rw [Hlen.out]; exact Hrd.out, Hkx.out.trans ((keeps_setCells g vs (i * 5) wr).mono fun _ _ h => .inl h.symm), fun g' hg' => by simpa [Value.ownBlock] using hg'⟩
set_option maxRecDepth 100000 in
set_option maxHeartbeats 800000 in
theorem rateTurns_any (L : List Ev) (ad : Option Addr) (cap : Nat) (tr : Int) (w : World) (hr : Reads w 5 (.slice ad L.length cap) L.length (L.flatMap Ev.cells)) (hl : L.length ≤ 1000000) (hok : ∀ x ∈ L, dayOk x) :
    Calls Try.prog 63 #[.slice ad L.length cap, .int .i64 tr] w fun e w' => ∃ v', e = .returned v' ∧ w'.ownsRow 0 34 5 v' (turnsL L tr).length ((turnsL L tr).flatMap Ev.cells) ∧ Fresh w w' v' := by
  have hcl := cloneEv_any (w.alloc (.cells #[.int .i64 tr] 3)) (.slice ad L.length cap) L.length (L.flatMap Ev.cells) (hr.alloc _) (fun u hu => Ev.one _ u hu) (by omega)
  have Hr := Lib.hid hr; clear hr; have Hcl := Lib.hid hcl; clear hcl
  go_enter Try.func63, Try.ntmps63
  go_wp2_with fail
  refine Hcl.out.mono ?_
  rintro e w1 ⟨v1, rfl, hrow1, hk1, hnew1⟩
  have hB3 := box_new hk1 (by simp)
  have c3 := cell_of_cells hB3 0
  obtain ⟨ad1, c1, hv1, _, _⟩ := ownsRow_shape hrow1
  have hnew2 : ∀ g, v1.ownBlock = some g → w.heap.size + 1 ≤ g := fun g hg => by have := hnew1 g hg; simp at this; exact this
  have hdel := delEv_rate w.heap.size (fun x => !rateQ tr x) v1 L w1 hrow1 hl (fun W x hW => rateTurns1_any tr w.heap.size x W ((hW.cell (cell_lt c3) (fun e => by have := hnew2 w.heap.size e; omega)).trans c3))
  simp only [Bool.not_not] at hdel
  subst hv1
  have Hdel := Lib.hid hdel; clear hdel; have Hnew2 := Lib.hid hnew2; clear hnew2; have Hk1 := Lib.hid hk1; clear hk1
  clear hrow1 hnew1 hB3
  go_wp2_with fail
  refine Hdel.out.mono ?_
  rintro e w2 ⟨v2, rfl, hrow2, hk2, hown⟩
  have hs := sortEv_any 70 dayOk rateTurns2_by v2 _ w2 hrow2 (fun x hx => hok x (List.mem_filter.1 hx).1) (Nat.le_trans (List.length_filter_le _ _) hl)
  have hfr : Fresh w w2 v2 := ⟨((Keeps.alloc w _).trans (Hk1.out.mono (by simp))).trans (hk2.mono fun i _ e => .inr (by have := Hnew2.out i e; omega)), fun g hg => by have := Hnew2.out g (hown g hg); omega⟩
  have hlen : (turnsL L tr).length = (L.filter (rateQ tr)).length := sortL_length _
  obtain ⟨ad2, c2, rfl, _⟩ := ownsRow_shape hrow2
  have Hs := Lib.hid hs; clear hs; have Hfr := Lib.hid hfr; clear hfr; have Hlen := Lib.hid hlen; clear hlen
  clear hrow2 hk2 hown
  go_wp2_with fail
  refine Hs.out.mono ?_
  rintro e w3 ⟨rfl, hrow3, hk3⟩
  have hpost : w3.ownsRow 0 34 5 (.slice ad2 (L.filter (rateQ tr)).length c2) (turnsL L tr).length ((turnsL L tr).flatMap Ev.cells) ∧ Fresh w w3 (.slice ad2 (L.filter (rateQ tr)).length c2) := ⟨by rw [Hlen.out]; exact hrow3, Hfr.out.1.trans (hk3.mono fun i _ e => .inr (Hfr.out.2 i e)), Hfr.out.2⟩
  have Hpost := Lib.hid hpost; clear hpost
  clear hrow3 hk3
  go_wp2_with fail
  go_ret
  exact ⟨_, rfl, Hpost.out.1, Hpost.out.2⟩
end Go.Proofs.Ytelhlbplbkglkaa
