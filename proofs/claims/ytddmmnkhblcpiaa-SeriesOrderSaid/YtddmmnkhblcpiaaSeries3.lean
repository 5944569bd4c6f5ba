/- The walks of the series layer: Sum. -/
import Derived.Test.YtddmmnkhblcpiaaSeries2
import Derived.Test.YtddmmnkhblcpiaaBits
namespace Go.Proofs.Ytddmmnkhblcpiaa
open Go.RowKit
def sumErr (L : List Turn) (a b : Int) : Int := if b < a ∨ 40000 ≤ b - a then 1 else if 1000000000000000000 < progSum L a b then 5 else 0
def sumVal (L : List Turn) (a b : Int) : Int := if sumErr L a b = 0 then progSum L a b else 0
set_option maxRecDepth 100000 in
set_option maxHeartbeats 400000 in
theorem serSum_nil (a b : Int) (w : World) : Calls Try.prog 10 #[.pointer none, .agg #[.int .i64 a, .int .i64 b]] w fun e w' => e = .returned (.tuple #[.int .i64 0, .int .i64 2]) ∧ Keeps (fun _ => False) w w' := by
  go_enter Try.func10, Try.ntmps10
  go_wp2
  go_ret2
  exact ⟨rfl, Keeps.alloc _ _⟩
set_option maxRecDepth 100000 in
set_option maxHeartbeats 400000 in
theorem serSum_1 (a b : Int) (p : Nat) (w : World) (h1 : -9223372036854775808 ≤ a) (h2 : b ≤ 9223372036854775807) (h : b < a ∨ (a ≤ b ∧ 40000 ≤ b - a)) : Calls Try.prog 10 #[(.pointer (some ⟨p, 0, none⟩)), .agg #[.int .i64 a, .int .i64 b]] w fun e w' => e = .returned (.tuple #[.int .i64 0, .int .i64 1]) ∧ Keeps (fun _ => False) w w' := by
  rcases h with h | ⟨h, h'⟩
  · go_enter Try.func10, Try.ntmps10
    go_wp2
    go_ret2
    exact ⟨rfl, Keeps.alloc _ _⟩
  · have hs := uSub b a h h1 h2
    go_enter Try.func10, Try.ntmps10
    go_wp2
    go_ret2
    exact ⟨rfl, Keeps.alloc _ _⟩
/-- What stands behind place k is still to be summed. -/
def SumRel (L : List Turn) (a b : Int) (k : Nat) (hi lo : Int) : Prop := 0 ≤ hi ∧ 0 ≤ lo ∧ lo < 18446744073709551616 ∧ hi * 18446744073709551616 + lo + progSum (L.drop k) a b = progSum L a b
theorem drop_cons {L : List Turn} {k : Nat} {x : Turn} (hx : L[k]? = some x) : L.drop k = x :: L.drop (k + 1) := by
  have hk := lt_of_get hx
  rw [List.drop_eq_getElem_cons hk]
  rw [List.getElem?_eq_getElem hk] at hx
  cases hx; rfl
theorem sum_skip {L : List Turn} {a b : Int} {k : Nat} {hi lo : Int} {x : Turn} (hx : L[k]? = some x) (h : SumRel L a b k hi lo) (hz : capT (L.drop (k + 1)) b < max x.day a) : SumRel L a b (k + 1) hi lo := by
  obtain ⟨h1, h2, h3, h4⟩ := h
  refine ⟨h1, h2, h3, ?_⟩
  rw [drop_cons hx, progSum_cons] at h4
  have : daysT (max x.day a) (capT (L.drop (k + 1)) b) = 0 := by unfold daysT; rw [if_pos hz]
  rw [this] at h4
  omega
theorem sum_add {L : List Turn} {a b : Int} {k : Nat} {hi lo c : Int} {x : Turn} (hx : L[k]? = some x) (h : SumRel L a b k hi lo) (hz : max x.day a ≤ capT (L.drop (k + 1)) b) (hc : c = capT (L.drop (k + 1)) b - max x.day a + 1) (hb : 0 ≤ x.balance) :
    SumRel L a b (k + 1) (hi + (c * x.balance / 18446744073709551616 + (lo + c * x.balance % 18446744073709551616) / 18446744073709551616)) ((lo + c * x.balance % 18446744073709551616) % 18446744073709551616) := by
  obtain ⟨h1, h2, h3, h4⟩ := h
  rw [drop_cons hx, progSum_cons] at h4
  have hd : daysT (max x.day a) (capT (L.drop (k + 1)) b) = c := by unfold daysT; rw [if_neg (by omega), hc]
  have hp : 0 ≤ c * x.balance := Int.mul_nonneg (by omega) hb
  rw [hd] at h4
  generalize c * x.balance = p at *
  refine ⟨by omega, by omega, by omega, by omega⟩
theorem u64_in (n : Int) (h : 0 ≤ n) (h' : n < 18446744073709551616) : IntKind.u64.wrap n = n := by simp [IntKind.wrap, IntKind.signed, IntKind.bits]; omega
theorem sum_addw {L : List Turn} {f a b : Int} {k : Nat} {hi lo zd zb : Int} (hok : SerOk f L) (hbd : progSum L a b ≤ 40000000000000000000) (hx : L[k]? = some ⟨zd, zb⟩) (h : SumRel L a b k hi lo) (to : Int) (ht : capT (L.drop (k + 1)) b = to) (hz : (if zd < a then a else zd) ≤ to) :
    SumRel L a b (k + 1) (IntKind.u64.wrap (hi + IntKind.u64.wrap (((to - if zd < a then a else zd) + 1) * zb / 18446744073709551616 + (lo + ((to - if zd < a then a else zd) + 1) * zb % 18446744073709551616) / 18446744073709551616)))
      ((lo + ((to - if zd < a then a else zd) + 1) * zb) % 18446744073709551616) := by
  subst ht
  have hm : (if zd < a then a else zd) = max zd a := by split <;> omega
  rw [hm] at hz ⊢
  have hzb := (hok.2 _ (List.mem_of_getElem? hx)).2.2.1
  simp only at hzb
  have hs := sum_add (c := capT (L.drop (k + 1)) b - max zd a + 1) hx h (by simpa using hz) rfl hzb
  have hrest := progSum_nonneg (L := L.drop (k + 1)) (fun t ht => (hok.2 t (List.mem_of_mem_drop ht)).2.2.1) a b
  have hp : 0 ≤ (capT (L.drop (k + 1)) b - max zd a + 1) * zb := Int.mul_nonneg (by omega) hzb
  have hh := h.1
  have hh2 := h.2.1
  simp only at hs
  generalize (capT (L.drop (k + 1)) b - max zd a + 1) * zb = q at *
  obtain ⟨s1, s2, s3, s4⟩ := hs
  have e1 : IntKind.u64.wrap (q / 18446744073709551616 + (lo + q % 18446744073709551616) / 18446744073709551616) = q / 18446744073709551616 + (lo + q % 18446744073709551616) / 18446744073709551616 := u64_in _ (by omega) (by omega)
  rw [e1, u64_in _ s1 (by omega)]
  rw [show (lo + q) % 18446744073709551616 = (lo + q % 18446744073709551616) % 18446744073709551616 by omega]
  exact ⟨s1, s2, s3, s4⟩
theorem sum_skipw {L : List Turn} {a b : Int} {k : Nat} {hi lo zd zb : Int} (hx : L[k]? = some ⟨zd, zb⟩) (h : SumRel L a b k hi lo) (to : Int) (ht : capT (L.drop (k + 1)) b = to) (hz : to < if zd < a then a else zd) : SumRel L a b (k + 1) hi lo :=
  sum_skip hx h (by subst ht; have hm : (if zd < a then a else zd) = max zd a := by split <;> omega
                    rw [hm] at hz; exact hz)
theorem progSum_bd {L : List Turn} {f : Int} (h : SerOk f L) {a b : Int} (hab : a ≤ b) (hlt : b - a < 40000) : 0 ≤ progSum L a b ∧ progSum L a b ≤ 40000000000000000000 := by
  have e := refSum_eq h.1 a (b - a + 1).toNat
  rw [show a + (((b - a + 1).toNat : Nat) : Int) - 1 = b by omega] at e
  have hb := refSum_bd (L := L) (fun t ht => ⟨(h.2 t ht).2.2.1, (h.2 t ht).2.2.2⟩) a (b - a + 1).toNat
  rw [e] at hb
  refine ⟨hb.1, Int.le_trans hb.2 ?_⟩
  omega
set_option maxRecDepth 100000 in
set_option maxHeartbeats 1600000 in
theorem serSum_ok (a b : Int) (p : Nat) (v : Value) (f : Int) (L : List Turn) (w : World) (h : SerAt w p v f L) (hl : L.length ≤ 100000) (h1 : -9223372036854775808 ≤ a) (h2 : b ≤ 9223372036854775807) (hab : a ≤ b) (hlt : b - a < 40000) :
    Calls Try.prog 10 #[(.pointer (some ⟨p, 0, none⟩)), .agg #[.int .i64 a, .int .i64 b]] w fun e w' => e = .returned (.tuple #[.int .i64 (sumVal L a b), .int .i64 (sumErr L a b)]) ∧ Keeps (fun _ => False) w w' := by
  have hs := uSub b a hab h1 h2
  have hbd := progSum_bd h.ok hab hlt
  have hfb := h.fb
  have hok := h.ok
  have hpl := lt_of_block h.blk
  obtain ⟨ad, cap, rfl, hcap, hnone⟩ := ownsRow_shape h.row
  have c1 := cell_of_cells h.blk 1
  have hna : ¬ b < a := by omega
  have hval : sumErr L a b = (if 1000000000000000000 < progSum L a b then 5 else 0) := by unfold sumErr; rw [if_neg (by omega)]
  have H := Lib.hid h; clear h; have Hbd := Lib.hid hbd; clear hbd; have Hfb := Lib.hid hfb; clear hfb; have Hok := Lib.hid hok; clear hok; have Hnone := Lib.hid hnone; clear hnone; have Hval := Lib.hid hval; clear hval
  go_enter Try.func10, Try.ntmps10
  go_wp2
  go_loopw [6, 7, 37] (fun hi lo i wr => ∃ (k : Nat) (x y : Int), k ≤ L.length ∧ i = .int .i64 k ∧ hi = .int .u64 x ∧ lo = .int .u64 y ∧ SumRel L a b k x y ∧ Keeps (fun _ => False) (w.alloc (.cells #[.int .i64 a, .int .i64 b] 35)) wr) (fun _ _ i _ => L.length - (intOf i).toNat)
  case atStart => exact ⟨0, 0, 0, Nat.zero_le _, rfl, rfl, rfl, ⟨by omega, by omega, by omega, by simp⟩, Keeps.refl _ _⟩
  case round =>
    obtain ⟨k, x, y, hk, rfl, rfl, rfl, hsr, hkp⟩ := hrel
    have Hsr := Lib.hid hsr; clear hsr; have Hkp := Lib.hid hkp; clear hkp
    by_cases hkl : k < L.length
    · obtain ⟨z, hz⟩ : ∃ z, L[k]? = some z := ⟨L[k], List.getElem?_eq_getElem hkl⟩
      have hk1 : Keeps (fun _ => False) w wr := (Keeps.alloc _ _).trans (Hkp.out.mono (by simp))
      obtain ⟨g, o, c, he, hc⟩ := ((Reads.of_owns H.out.row).keeps hk1 (by simp)).elem Turn.cells_length hz (by decide)
      simp only [Value.slice.injEq, true_and] at he
      obtain ⟨rfl, rfl⟩ := he
      have hzo := Hok.out.2 z (List.mem_of_getElem? hz)
      obtain ⟨zd, zb⟩ := z
      have z0 : wr.cell? ⟨g, o + k * 2, none⟩ = some (.int .i64 zd) := hc 0 (by decide)
      have z1 : wr.cell? ⟨g, o + k * 2 + 1, none⟩ = some (.int .i64 zb) := hc 1 (by decide)
      have d1 : wr.cell? ⟨p, 1, none⟩ = some (.slice (some ⟨g, o, none⟩) L.length cap) := (hk1.cell (p := ⟨p, 1, none⟩) hpl (by simp)).trans c1
      have hbx := box_new Hkp.out (by simp)
      have s0 := cell_of_cells hbx 0
      have s1 := cell_of_cells hbx 1
      have l0 := lt_of_block hbx
      have l1 : p < wr.heap.size := Nat.lt_of_lt_of_le hpl hk1.size
      have l2 : g < wr.heap.size := cell_lt z0
      obtain ⟨zf1, zf2, zb0, zb1⟩ := hzo
      simp only at zf1 zf2 zb0 zb1
      have zd1 : -1099511627776 ≤ zd := by have := Hfb.out; omega
      have zd2 : zd ≤ 1099511667776 := by have := Hfb.out; omega
      have hsr1 := Hsr.out.2.1
      have hsr2 := Hsr.out.2.2.1
      have Hz := Lib.hid hz; clear hz; have Hk1 := Lib.hid hk1; clear hk1
      clear hc hbx zf1 zf2 c1
      by_cases hnx : k + 1 < L.length
      · obtain ⟨z', hz'⟩ : ∃ z', L[k + 1]? = some z' := ⟨L[k + 1], List.getElem?_eq_getElem hnx⟩
        obtain ⟨g', o', c', he', hc'⟩ := ((Reads.of_owns H.out.row).keeps Hk1.out (by simp)).elem Turn.cells_length hz' (by decide)
        simp only [Value.slice.injEq, true_and, Option.some.injEq, Addr.mk.injEq, and_true] at he'
        obtain ⟨⟨rfl, rfl⟩, rfl⟩ := he'
        have hzo' := Hok.out.2 z' (List.mem_of_getElem? hz')
        obtain ⟨nd, nb⟩ := z'
        have z2 : wr.cell? ⟨g, o + (k + 1) * 2, none⟩ = some (.int .i64 nd) := hc' 0 (by decide)
        simp only at hzo'
        have nd1 : -1099511627776 ≤ nd := by have := Hfb.out; omega
        have nd2 : nd ≤ 1099511667776 := by have := Hfb.out; omega
        have hcapn : capT (L.drop (k + 1)) b = if nd - 1 < b then nd - 1 else b := by rw [drop_cons hz']; simp only [capT]; split <;> omega
        have Hcapn := Lib.hid hcapn; clear hcapn; have Hz' := Lib.hid hz'; clear hz'
        clear hc' hzo'
        have hadd := fun (q : Int) (W : World) => add64_run y (q % 18446744073709551616) hsr1 hsr2 (by omega) (by omega) W
        go_wp2
        go_region
        all_goals
          go_wp2_with (go_at_call 21; refine (mul64_any _ _ (by omega) (by omega) (by omega) (by omega) _).mono ?_; rintro e w2 ⟨rfl, rfl⟩)
        all_goals
          go_roundw
          case rel => first
            | exact ⟨k + 1, _, _, by omega, by go_num, rfl, rfl, sum_skipw Hz.out Hsr.out _ Hcapn.out (by assumption), (Hkp.out.trans (Keeps.alloc _ _)).trans (Keeps.drew _)⟩
            | exact ⟨k + 1, _, _, by omega, by go_num, rfl, rfl, sum_addw Hok.out Hbd.out.2 Hz.out Hsr.out _ Hcapn.out (by first | assumption | exact Int.not_lt.1 (by assumption)), (Hkp.out.trans (Keeps.alloc _ _)).trans (Keeps.drew _)⟩
          case measure => simp [intOf]; omega
      · have hcapn : capT (L.drop (k + 1)) b = b := by rw [List.drop_eq_nil_of_le (by omega)]; rfl
        have Hcapn := Lib.hid hcapn; clear hcapn
        have hadd := fun (q : Int) (W : World) => add64_run y (q % 18446744073709551616) hsr1 hsr2 (by omega) (by omega) W
        go_wp2
        go_region
        all_goals
          go_wp2_with (go_at_call 21; refine (mul64_any _ _ (by omega) (by omega) (by omega) (by omega) _).mono ?_; rintro e w2 ⟨rfl, rfl⟩)
        all_goals
          go_roundw
          case rel => first
            | exact ⟨k + 1, _, _, by omega, by go_num, rfl, rfl, sum_skipw Hz.out Hsr.out b Hcapn.out ‹_›, (Hkp.out.trans (Keeps.alloc _ _)).trans (Keeps.drew _)⟩
            | exact ⟨k + 1, _, _, by omega, by go_num, rfl, rfl, sum_addw Hok.out Hbd.out.2 Hz.out Hsr.out b Hcapn.out (by first | assumption | exact Int.not_lt.1 (by assumption)), (Hkp.out.trans (Keeps.alloc _ _)).trans (Keeps.drew _)⟩
          case measure => simp [intOf]; omega
    · have hke : k = L.length := by omega
      subst hke
      have e : x * 18446744073709551616 + y = progSum L a b := by have := Hsr.out.2.2.2; simpa [progSum] using this
      have hy0 := Hsr.out.2.1
      have hx0 := Hsr.out.1
      have hy1 := Hsr.out.2.2.1
      clear hkl hk
      have fin : ∀ v e : Int, v = sumVal L a b → e = sumErr L a b → Ending.returned (.tuple #[.int .i64 v, .int .i64 e]) = Ending.returned (.tuple #[.int .i64 (sumVal L a b), .int .i64 (sumErr L a b)]) := fun v e h1 h2 => by rw [h1, h2]
      have hk2 : Keeps (fun _ => False) w wr := (Keeps.alloc _ _).trans (Hkp.out.mono (by simp))
      have E := Lib.hid e; clear e; have Fin := Lib.hid fin; clear fin; have Hk2 := Lib.hid hk2; clear hk2
      by_cases hx : 0 < x
      · have he5 : sumErr L a b = 5 := by rw [Hval.out, if_pos]; have := E.out; omega
        have hv0 : sumVal L a b = 0 := by unfold sumVal; rw [he5]; rfl
        have He5 := Lib.hid he5; clear he5; have Hv0 := Lib.hid hv0; clear hv0
        clear hy1
        go_wp2
        go_ret2
        exact ⟨Fin.out 0 5 Hv0.out.symm He5.out.symm, Hk2.out⟩
      · have hx' : x = 0 := by omega
        subst hx'
        by_cases hy : 1000000000000000000 < y
        · have he5 : sumErr L a b = 5 := by rw [Hval.out, if_pos]; have := E.out; omega
          have hv0 : sumVal L a b = 0 := by unfold sumVal; rw [he5]; rfl
          have He5 := Lib.hid he5; clear he5; have Hv0 := Lib.hid hv0; clear hv0
          clear hy1
          go_wp2
          go_ret2
          exact ⟨Fin.out 0 5 Hv0.out.symm He5.out.symm, Hk2.out⟩
        · have he0 : sumErr L a b = 0 := by rw [Hval.out, if_neg]; have := E.out; omega
          have hv0 : sumVal L a b = y := by unfold sumVal; rw [if_pos he0]; have := E.out; omega
          have hyb : y ≤ 1000000000000000000 := by omega
          have He0 := Lib.hid he0; clear he0; have Hv0 := Lib.hid hv0; clear hv0
          clear hy1
          go_wp2
          go_ret2
          exact ⟨Fin.out y 0 Hv0.out.symm He0.out.symm, Hk2.out⟩
theorem serSum_any (a b : Int) (p : Nat) (v : Value) (f : Int) (L : List Turn) (w : World) (h : SerAt w p v f L) (hl : L.length ≤ 100000) (h1 : -9223372036854775808 ≤ a) (h2 : b ≤ 9223372036854775807) :
    Calls Try.prog 10 #[(.pointer (some ⟨p, 0, none⟩)), .agg #[.int .i64 a, .int .i64 b]] w fun e w' => e = .returned (.tuple #[.int .i64 (sumVal L a b), .int .i64 (sumErr L a b)]) ∧ Keeps (fun _ => False) w w' := by
  by_cases hc : b < a ∨ 40000 ≤ b - a
  · refine (serSum_1 a b p w h1 h2 (by omega)).mono ?_
    rintro e w' ⟨rfl, hk⟩
    have he : sumErr L a b = 1 := by unfold sumErr; rw [if_pos hc]
    have hv : sumVal L a b = 0 := by unfold sumVal; rw [he]; rfl
    exact ⟨by rw [he, hv], hk⟩
  · exact serSum_ok a b p v f L w h hl h1 h2 (by omega) (by omega)
end Go.Proofs.Ytddmmnkhblcpiaa
