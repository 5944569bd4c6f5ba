/- The walks of the adjust layer: a statement's numbers; more of a number. -/
import Derived.Test.YthokcmbgamanbaaAdj
namespace Go.Proofs.Ythokcmbgamanbaa
open Go.RowKit
def Ln.numsB (x : Ln) : Bool := allMoney [x.balance, x.interest]
def Stm.numbersB (s : Stm) : Bool := s.lines.all Ln.numsB && allMoney [s.total, s.credit, s.min]
theorem numsB_false {L : List Ln} {k : Nat} {x : Ln} (h : L[k]? = some x) (hx : x.numsB = false) : L.all Ln.numsB = false := by
  rw [Bool.eq_false_iff]; intro hm
  have := List.all_eq_true.1 hm x (List.mem_of_getElem? h)
  rw [hx] at this; simp at this
set_option maxRecDepth 100000 in
set_option maxHeartbeats 1600000 in
theorem adjNumbers_any (s : Stm) (ad : Option Addr) (cap : Nat) (w : World) (hr : Reads w 3 (.slice ad s.lines.length cap) s.lines.length (s.lines.flatMap Ln.cells)) (hl : s.lines.length ≤ 1000000) :
    Calls Try.prog 51 #[s.val (.slice ad s.lines.length cap)] w fun e w' => e = .returned (.bool s.numbersB) ∧ Keeps (fun _ => False) w w' := by
  obtain ⟨cy, fr, to, du, tot, cr, mi, gr, L⟩ := s
  simp only [Stm.val] at hr hl ⊢
  have hd : Stm.numbersB ⟨cy, fr, to, du, tot, cr, mi, gr, L⟩ = (L.all Ln.numsB && allMoney [tot, cr, mi]) := rfl
  rw [hd]
  clear hd
  have hbox := heap_alloc_new w (.cells #[.int .i64 cy, .int .i64 fr, .int .i64 to, .int .i64 du, .slice ad L.length cap, .int .i64 tot, .int .i64 cr, .int .i64 mi, .bool gr] 44)
  have Hr := Lib.hid hr; clear hr; have Hbox := Lib.hid hbox; clear hbox
  go_enter Try.func51, Try.ntmps51
  go_wp2_with fail
  go_loopw [8] (fun c wr => ∃ j : Nat, j ≤ L.length ∧ c = .int .i64 (j : Nat) ∧ (L.take j).all Ln.numsB = true ∧ Keeps (fun _ => False) w wr ∧ wr.heap[w.heap.size]? = some (.cells #[.int .i64 cy, .int .i64 fr, .int .i64 to, .int .i64 du, .slice ad L.length cap, .int .i64 tot, .int .i64 cr, .int .i64 mi, .bool gr] 44 (0, 0))) (fun c _ => L.length - (intOf c).toNat)
  case atStart => exact ⟨0, Nat.zero_le _, rfl, rfl, Keeps.alloc _ _, Hbox.out⟩
  case round =>
    obtain ⟨j, hj, rfl, hok, hk, hb⟩ := hrel
    have b5 := cell_of_cells hb 5
    have b6 := cell_of_cells hb 6
    have b7 := cell_of_cells hb 7
    have hbl := lt_of_block hb
    by_cases hjl : j < L.length
    · obtain ⟨⟨xb, xi, xr⟩, hx⟩ := get_some hjl
      obtain ⟨g, o, c, he, hc⟩ := (Hr.out.keeps hk (by simp)).elem Ln.cells_length hx (by decide)
      simp only [Value.slice.injEq, true_and] at he
      obtain ⟨rfl, rfl⟩ := he
      have x0 : wr.cell? ⟨g, o + j * 3, none⟩ = some (.int .i64 xb) := hc 0 (by decide)
      have x1 : wr.cell? ⟨g, o + j * 3 + 1, none⟩ = some (.int .i64 xi) := hc 1 (by decide)
      have x2 : wr.cell? ⟨g, o + j * 3 + 2, none⟩ = some (.int .i64 xr) := hc 2 (by decide)
      have han : (L.take (j + 1)).all Ln.numsB = allMoney [xb, xi] := by rw [take_snoc' hx, List.all_append, hok]; simp [Ln.numsB]
      have hno : allMoney [xb, xi] = false → (L.all Ln.numsB && allMoney [tot, cr, mi]) = false := fun h => by rw [numsB_false hx (by simpa [Ln.numsB] using h)]; rfl
      clear hc
      rcases m1 : allMoney [xb, xi] with _ | _
      · have hf := hno m1
        have Hx := Lib.hid hx; clear hx; have Han := Lib.hid han; clear han; have Hno := Lib.hid hno; clear hno; have Hk := Lib.hid hk; clear hk; have Hb := Lib.hid hb; clear hb; have Hok := Lib.hid hok; clear hok; have Hf := Lib.hid hf; clear hf
        go_wp2_with (go_at_call 64; ((with_reducible refine (adjMay2 (by simp) _ xb xi).mono ?_); rintro e w1 ⟨rfl, rfl⟩))
        go_ret
        exact ⟨by rw [Hf.out]; rfl, Hk.out.trans ((Keeps.alloc _ _).trans (Keeps.alloc _ _))⟩
      · have hok' : (L.take (j + 1)).all Ln.numsB = true := by rw [han, m1]
        have Hx := Lib.hid hx; clear hx; have Han := Lib.hid han; clear han; have Hno := Lib.hid hno; clear hno; have Hk := Lib.hid hk; clear hk; have Hb := Lib.hid hb; clear hb; have Hok := Lib.hid hok; clear hok; have Hok' := Lib.hid hok'; clear hok'
        go_wp2_with (go_at_call 64; ((with_reducible refine (adjMay2 (by simp) _ xb xi).mono ?_); rintro e w1 ⟨rfl, rfl⟩))
        go_roundw
        case rel => exact ⟨j + 1, by omega, by go_num, Hok'.out, Hk.out.trans ((Keeps.alloc _ _).trans (Keeps.alloc _ _)), box_alloc (box_alloc Hb.out _) _⟩
        case measure => simp [intOf]; omega
    · obtain rfl : j = L.length := by omega
      rw [List.take_length] at hok
      have hfin : (L.all Ln.numsB && allMoney [tot, cr, mi]) = allMoney [tot, cr, mi] := by rw [hok]; rfl
      have Hk := Lib.hid hk; clear hk; have Hb := Lib.hid hb; clear hb; have Hok := Lib.hid hok; clear hok; have Hfin := Lib.hid hfin; clear hfin
      go_wp2_with (go_at_call 64; ((with_reducible refine (adjMay3 rfl _ tot cr mi).mono ?_); rintro e w1 ⟨rfl, rfl⟩))
      go_ret
      exact ⟨by rw [Hfin.out]; rfl, Hk.out.trans (Keeps.alloc _ _)⟩
/-- May so much be added? -/
def moreB (v by_ : Int) : Bool := moneyB v && decide (-1000000000000000 ≤ by_ ∧ by_ ≤ 1000000000000000) && moneyB (v + by_)
theorem allMoney1 (v : Int) : allMoney [v] = moneyB v := by simp [allMoney]
set_option maxRecDepth 100000 in
set_option maxHeartbeats 800000 in
theorem adjMore_no (b j : Nat) (v d : Int) (w : World) (hc : w.cell? ⟨b, j, none⟩ = some (.int .i64 v)) (hn : moreB v d = false) :
    Calls Try.prog 66 #[.pointer (some ⟨b, j, none⟩), .int .i64 d] w fun e w' => e = .returned (.bool false) ∧ Keeps (fun _ => False) w w' := by
  have hm : ∀ x, moneyB x = decide (0 ≤ x ∧ x ≤ 1000000000000000) := fun _ => rfl
  have a1 := allMoney1 v
  have a2 := allMoney1 (v + d)
  have hbl := cell_lt hc
  rcases m1 : moneyB v with _ | _
  · rw [m1] at a1
    have Hn := Lib.hid hn; clear hn; have Hm := Lib.hid hm; clear hm
    clear a2
    go_enter Try.func66, Try.ntmps66
    go_wp2_with (go_at_call 64; ((with_reducible refine (adjMay1 (by simp) _ _).mono ?_); rintro e w1 ⟨rfl, rfl⟩))
    go_ret
    exact ⟨rfl, Keeps.alloc _ _⟩
  · rw [m1] at a1
    by_cases d1 : d < -1000000000000000
    · clear a2
      have Hn := Lib.hid hn; clear hn; have Hm := Lib.hid hm; clear hm
      go_enter Try.func66, Try.ntmps66
      go_wp2_with (go_at_call 64; ((with_reducible refine (adjMay1 (by simp) _ _).mono ?_); rintro e w1 ⟨rfl, rfl⟩))
      go_ret
      exact ⟨rfl, Keeps.alloc _ _⟩
    · by_cases d2 : 1000000000000000 < d
      · clear a2
        have Hn := Lib.hid hn; clear hn; have Hm := Lib.hid hm; clear hm
        go_enter Try.func66, Try.ntmps66
        go_wp2_with (go_at_call 64; ((with_reducible refine (adjMay1 (by simp) _ _).mono ?_); rintro e w1 ⟨rfl, rfl⟩))
        go_ret
        exact ⟨rfl, Keeps.alloc _ _⟩
      · have hv : 0 ≤ v ∧ v ≤ 1000000000000000 := by have := hm v; rw [m1] at this; simpa using this.symm
        have m2 : moneyB (v + d) = false := by
          unfold moreB at hn
          rw [m1] at hn
          have : decide (-1000000000000000 ≤ d ∧ d ≤ 1000000000000000) = true := by simp; omega
          rw [this] at hn; simpa using hn
        rw [m2] at a2
        have hw1 : IntKind.i64.wrap (v + d) = v + d := IntWalk.i64_in _ (by omega)
        clear hv
        have Hn := Lib.hid hn; clear hn; have Hm := Lib.hid hm; clear hm
        go_enter Try.func66, Try.ntmps66
        go_wp2_with (go_at_call 64; ((with_reducible refine (adjMay1 (by simp) _ _).mono ?_); rintro e w1 ⟨rfl, rfl⟩))
        go_ret
        exact ⟨rfl, (Keeps.alloc _ _).trans (Keeps.alloc _ _)⟩
set_option maxRecDepth 100000 in
set_option maxHeartbeats 800000 in
theorem adjMore_ok (b j : Nat) (v d : Int) (w : World) (hc : w.cell? ⟨b, j, none⟩ = some (.int .i64 v)) (hf : w.frozen? ⟨b, j, none⟩ = false) (hn : moreB v d = true) :
    Calls Try.prog 66 #[.pointer (some ⟨b, j, none⟩), .int .i64 d] w fun e w' => e = .returned (.bool true) ∧ Keeps (fun k => k = b) w w' ∧ w'.heap[b]? = (w.setCell ⟨b, j, none⟩ (.int .i64 (v + d))).heap[b]? := by
  have hm : ∀ x, moneyB x = decide (0 ≤ x ∧ x ≤ 1000000000000000) := fun _ => rfl
  have a1 := allMoney1 v
  have a2 := allMoney1 (v + d)
  simp only [moreB, Bool.and_eq_true, decide_eq_true_eq] at hn
  obtain ⟨⟨m1, d1, d2⟩, m2⟩ := hn
  rw [m1] at a1
  rw [m2] at a2
  have hv : 0 ≤ v ∧ v ≤ 1000000000000000 := by have := hm v; rw [m1] at this; simpa using this.symm
  have hw1 : IntKind.i64.wrap (v + d) = v + d := IntWalk.i64_in _ (by omega)
  have hbl := cell_lt hc
  clear hv
  have Hm := Lib.hid hm; clear hm
  go_enter Try.func66, Try.ntmps66
  go_wp2_with (go_at_call 64; ((with_reducible refine (adjMay1 (by simp) _ _).mono ?_); rintro e w1 ⟨rfl, rfl⟩))
  go_ret
  exact ⟨rfl, ((Keeps.setCell (S := fun k => k = b) w ⟨b, j, none⟩ _ rfl).trans (Keeps.alloc _ _)).trans (Keeps.alloc _ _), (Below.heap_alloc _ _ _ (by simp; omega)).trans (Below.heap_alloc _ _ _ (by simp; omega))⟩
end Go.Proofs.Ythokcmbgamanbaa
