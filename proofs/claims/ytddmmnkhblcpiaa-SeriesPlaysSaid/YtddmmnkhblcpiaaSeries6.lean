/- The reference's series: On, Sum, Set. -/
import Derived.Test.YtddmmnkhblcpiaaSeries5
import Derived.Test.YtddmmnkhblcpiaaKit3
namespace Go.Proofs.Ytddmmnkhblcpiaa
open Go.RowKit
/-- The reference's series in memory. -/
structure RSerAt (w : World) (b : Nat) (v : Value) (f : Int) (L : List Turn) : Prop where
  blk : w.heap[b]? = some (.cells #[.int .i64 f, v] 43 (0, 0))
  row : w.ownsRow 0 60 2 v L.length (L.flatMap Turn.cells)
  ok : SerOk f L
  fb : -1099511627776 ≤ f ∧ f ≤ 1099511627776
theorem RSerAt.keeps {S : Nat → Prop} {w w' : World} {b : Nat} {v : Value} {f : Int} {L : List Turn} (h : RSerAt w b v f L) (hk : Keeps S w w') (hS : ∀ k, Foot b v k → ¬ S k) : RSerAt w' b v f L :=
  ⟨by rw [hk.block b (lt_of_block h.blk) (hS b (.inl rfl))]; exact h.blk, hk.row h.row fun k hk => hS k (.inr hk), h.ok, h.fb⟩
theorem RSerAt.lt {w : World} {b : Nat} {v : Value} {f : Int} {L : List Turn} (h : RSerAt w b v f L) : ∀ k, Foot b v k → k < w.heap.size := by
  rintro k (rfl | hk)
  · exact lt_of_block h.blk
  · exact (h.row.lt k hk).2
def RSerPost (w : World) (b : Nat) (v : Value) (f : Int) (L' : List Turn) (r : Value) (e : Ending) (w' : World) : Prop :=
  e = .returned r ∧ ∃ v', RSerAt w' b v' f L' ∧ Keeps (Foot b v) w w' ∧ ∀ k, Foot b v' k → Foot b v k ∨ w.heap.size ≤ k
set_option maxRecDepth 100000 in
set_option maxHeartbeats 400000 in
theorem rserOn_any (d : Int) (b : Nat) (v : Value) (f : Int) (L : List Turn) (w : World) (h : RSerAt w b v f L) (hl : L.length ≤ 100000) : Calls Try.prog 15 #[(.pointer (some ⟨b, 0, none⟩)), .int .i64 d] w fun e w' => e = .returned (.int .i64 (onT L d)) ∧ w = w' := by
  have c1 := cell_of_cells h.blk 1
  obtain ⟨ad, cap, rfl, hcap, hnone⟩ := ownsRow_shape h.row
  have hreads := Reads.of_owns h.row
  have H := Lib.hid h; clear h; have Hreads := Lib.hid hreads; clear hreads; have Hnone := Lib.hid hnone; clear hnone
  go_enter Try.func15, Try.ntmps15
  go_wp2
  go_loop [5, 6] (fun s i => ∃ k : Nat, k ≤ L.length ∧ s = .int .i64 (onT (L.take k) d) ∧ i = .int .i64 k) (fun _ i => L.length - (intOf i).toNat)
  case atStart => exact ⟨0, Nat.zero_le _, rfl, rfl⟩
  case round =>
    obtain ⟨k, hk, rfl, rfl⟩ := hrel
    by_cases hlt : k < L.length
    · obtain ⟨x, hx⟩ := get_some hlt
      obtain ⟨g, o, c, he, hc⟩ := Hreads.out.elem Turn.cells_length hx (by decide)
      simp only [Value.slice.injEq, true_and] at he
      obtain ⟨rfl, rfl⟩ := he
      obtain ⟨xd, xb⟩ := x
      have x0 : w.cell? ⟨g, o + k * 2, none⟩ = some (.int .i64 xd) := hc 0 (by decide)
      have x1 : w.cell? ⟨g, o + k * 2 + 1, none⟩ = some (.int .i64 xb) := hc 1 (by decide)
      have ht : onT (L.take (k + 1)) d = if xd ≤ d then xb else onT (L.take k) d := by rw [take_snoc' hx]; exact onT_snoc _ _ _
      clear hc
      generalize onT (L.take k) d = s at ht ⊢
      have Ht := Lib.hid ht; clear ht; have Hx := Lib.hid hx; clear hx
      by_cases hd : xd ≤ d
      · go_wp2
        go_round
        case rel => exact ⟨k + 1, by omega, by rw [Ht.out, if_pos hd], by go_num⟩
        case measure => simp [intOf]; omega
      · have Hd := Lib.hid hd
        go_wp2
        go_round
        case rel => exact ⟨k + 1, by omega, by rw [Ht.out, if_neg Hd.out], by go_num⟩
        case measure => simp [intOf]; omega
    · have hkl : k = L.length := by omega
      subst hkl
      go_wp2
      go_ret
      exact ⟨by simp, rfl⟩
theorem refSum_mono {L : List Turn} (h : ∀ t ∈ L, 0 ≤ t.balance ∧ t.balance ≤ 1000000000000000) (a : Int) {m n : Nat} (hmn : m ≤ n) : refSum L a m ≤ refSum L a n := by
  induction n with
  | zero => obtain rfl : m = 0 := by omega
            exact Int.le_refl _
  | succ n ih =>
    rcases Nat.lt_or_ge n m with h' | h'
    · obtain rfl : m = n + 1 := by omega
      exact Int.le_refl _
    · have := ih h'; have := onT_bd h (a + n); rw [refSum]; omega
set_option maxRecDepth 100000 in
set_option maxHeartbeats 400000 in
theorem rserSum_1 (a b : Int) (p : Nat) (w : World) (h1 : -9223372036854775808 ≤ a) (h1' : a ≤ 9223372036854775807) (h2 : b ≤ 9223372036854775807) (h2' : -9223372036854775808 ≤ b) (h : b < a ∨ (a ≤ b ∧ 40000 ≤ b - a)) : Calls Try.prog 14 #[(.pointer (some ⟨p, 0, none⟩)), .agg #[.int .i64 a, .int .i64 b]] w fun e w' => e = .returned (.tuple #[.int .i64 0, .int .i64 1]) ∧ Keeps (fun _ => False) w w' := by
  rcases (show b < a ∨ (a ≤ b ∧ a < 0 ∧ a + 40000 ≤ b) ∨ (a ≤ b ∧ 0 ≤ a ∧ 40000 ≤ b - a) from by omega) with h3 | ⟨h3, h4, h5⟩ | ⟨h3, h4, h5⟩ <;>
  · clear h
    go_enter Try.func14, Try.ntmps14
    go_wp2
    go_ret2
    exact ⟨rfl, Keeps.alloc _ _⟩
set_option maxRecDepth 100000 in
set_option maxHeartbeats 1600000 in
theorem rserSum_ok (a b : Int) (p : Nat) (v : Value) (f : Int) (L : List Turn) (w : World) (h : RSerAt w p v f L) (hl : L.length ≤ 100000) (h1 : -9223372036854775808 ≤ a) (h2 : b ≤ 9223372036854775807) (hab : a ≤ b) (hlt : b - a < 40000) :
    Calls Try.prog 14 #[(.pointer (some ⟨p, 0, none⟩)), .agg #[.int .i64 a, .int .i64 b]] w fun e w' => e = .returned (.tuple #[.int .i64 (sumVal L a b), .int .i64 (sumErr L a b)]) ∧ Keeps (fun _ => False) w w' := by
  have hbal : ∀ t ∈ L, 0 ≤ t.balance ∧ t.balance ≤ 1000000000000000 := fun t ht => ⟨(h.ok.2 t ht).2.2.1, (h.ok.2 t ht).2.2.2⟩
  have hpl := lt_of_block h.blk
  obtain ⟨N, hN⟩ : ∃ N : Nat, b = a + N := ⟨(b - a).toNat, by omega⟩
  have hS : refSum L a (N + 1) = progSum L a b := by rw [refSum_eq h.ok.1, hN]; congr 1; omega
  have hval : sumErr L a b = (if 1000000000000000000 < progSum L a b then 5 else 0) := by unfold sumErr; rw [if_neg (by omega)]
  have hon : ∀ d, Calls Try.prog 15 #[(.pointer (some ⟨p, 0, none⟩)), .int .i64 d] (w.alloc (.cells #[.int .i64 a, .int .i64 b] 35)) fun e w' => e = .returned (.int .i64 (onT L d)) ∧ (w.alloc (.cells #[.int .i64 a, .int .i64 b] 35)) = w' := fun d =>
    rserOn_any d p v f L _ (h.keeps (Keeps.alloc (S := fun _ => False) _ _) (by simp)) hl
  have fin : ∀ v e : Int, v = sumVal L a b → e = sumErr L a b → Ending.returned (.tuple #[.int .i64 v, .int .i64 e]) = Ending.returned (.tuple #[.int .i64 (sumVal L a b), .int .i64 (sumErr L a b)]) := fun v e h1 h2 => by rw [h1, h2]
  have hna : ¬ b < a := by omega
  have H := Lib.hid h; clear h; have HS := Lib.hid hS; clear hS; have Hval := Lib.hid hval; clear hval; have Hon := Lib.hid hon; clear hon; have Fin := Lib.hid fin; clear fin; have Hbal := Lib.hid hbal; clear hbal; have HN := Lib.hid hN; clear hN
  rcases (show (0 ≤ a ∨ (a < 0 ∧ b < a + 40000)) from by omega) with h0 | ⟨h0, h3⟩
  all_goals
    go_enter Try.func14, Try.ntmps14
    go_wp2
    go_loop [6, 7] (fun s i => ∃ m : Nat, m ≤ N ∧ s = .int .i64 (refSum L a m) ∧ i = .int .i64 (a + m) ∧ refSum L a m ≤ 1000000000000000000) (fun _ i => (b - intOf i).toNat)
    case atStart => exact ⟨0, Nat.zero_le _, rfl, by simp, by simp [refSum]⟩
    case round =>
      obtain ⟨m, hm, rfl, rfl, hle⟩ := hrel
      have hb0 := (refSum_bd Hbal.out a m).1
      have hob := onT_bd Hbal.out (a + m)
      have hs1 : refSum L a (m + 1) = refSum L a m + onT L (a + m) := rfl
      have hmono := refSum_mono Hbal.out a (m := m + 1) (n := N + 1) (by omega)
      have ham : a + m ≤ b := by have := HN.out; omega
      have hon' := Hon.out (a + m)
      obtain ⟨s, hs⟩ : ∃ s, s = refSum L a m := ⟨_, rfl⟩
      obtain ⟨q, hq⟩ : ∃ q, q = onT L (a + m) := ⟨_, rfl⟩
      rw [← hs] at hs1 hle hb0 ⊢
      rw [← hq] at hs1 hob hon'
      obtain ⟨q0, q1⟩ := hob
      have Hon' := Lib.hid hon'; clear hon'
      have Hs := Lib.hid hs; clear hs; have Hq := Lib.hid hq; clear hq; have Hs1 := Lib.hid hs1; clear hs1; have Hmono := Lib.hid hmono; clear hmono
      by_cases hbig : 1000000000000000000 < s + q
      · have he5 : sumErr L a b = 5 := by rw [Hval.out, if_pos]; have := HS.out; have := Hmono.out; have := Hs1.out; omega
        have hv0 : sumVal L a b = 0 := by unfold sumVal; rw [he5]; rfl
        have He5 := Lib.hid he5; clear he5; have Hv0 := Lib.hid hv0; clear hv0
        go_wp2_with (go_at_call 15; refine Hon'.out.mono ?_; rintro e w1 ⟨rfl, rfl⟩)
        go_ret2
        exact ⟨Fin.out 0 5 Hv0.out.symm He5.out.symm, Keeps.alloc _ _⟩
      · have hsm : s + q ≤ 1000000000000000000 := by omega
        by_cases hend : a + m = b
        · have hmN : m = N := by have := HN.out; omega
          have he0 : sumErr L a b = 0 := by rw [Hval.out, if_neg]; have := HS.out; have := Hs1.out; subst hmN; omega
          have hv0 : sumVal L a b = s + q := by unfold sumVal; rw [if_pos he0]; have := HS.out; have := Hs1.out; subst hmN; omega
          have hend' : (a + m == b) = true := by simpa using hend
          have He0 := Lib.hid he0; clear he0; have Hv0 := Lib.hid hv0; clear hv0; have Hend := Lib.hid hend; clear hend; have HmN := Lib.hid hmN; clear hmN
          go_wp2_with (go_at_call 15; refine Hon'.out.mono ?_; rintro e w1 ⟨rfl, rfl⟩)
          go_ret2
          exact ⟨Fin.out _ 0 Hv0.out.symm He0.out.symm, Keeps.alloc _ _⟩
        · have hend' : (a + m == b) = false := by simpa using hend
          have hamb : a + m < b := by omega
          have hmN : m < N := by have := HN.out; omega
          have Hend := Lib.hid hend; clear hend
          go_wp2_with (go_at_call 15; refine Hon'.out.mono ?_; rintro e w1 ⟨rfl, rfl⟩)
          go_round
          case rel => exact ⟨m + 1, by omega, by rw [Hs1.out], by go_num, by rw [Hs1.out]; exact hsm⟩
          case measure => simp [intOf]; omega
theorem rserSum_any (a b : Int) (p : Nat) (v : Value) (f : Int) (L : List Turn) (w : World) (h : RSerAt w p v f L) (hl : L.length ≤ 100000) (h1 : -9223372036854775808 ≤ a) (h1' : a ≤ 9223372036854775807) (h2 : b ≤ 9223372036854775807) (h2' : -9223372036854775808 ≤ b) :
    Calls Try.prog 14 #[(.pointer (some ⟨p, 0, none⟩)), .agg #[.int .i64 a, .int .i64 b]] w fun e w' => e = .returned (.tuple #[.int .i64 (sumVal L a b), .int .i64 (sumErr L a b)]) ∧ Keeps (fun _ => False) w w' := by
  by_cases hc : b < a ∨ 40000 ≤ b - a
  · refine (rserSum_1 a b p w h1 h1' h2 h2' (by omega)).mono ?_
    rintro e w' ⟨rfl, hk⟩
    have he : sumErr L a b = 1 := by unfold sumErr; rw [if_pos hc]
    have hv : sumVal L a b = 0 := by unfold sumVal; rw [he]; rfl
    exact ⟨by rw [he, hv], hk⟩
  · exact rserSum_ok a b p v f L w h hl h1 h2 (by omega) (by omega)
end Go.Proofs.Ytddmmnkhblcpiaa
