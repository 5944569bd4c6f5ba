/- Terms and events: what may be, in the program and in the document. -/
import Derived.Test.YtelhlbplbkglkaaMix
import Derived.Test.YtelhlbplbkglkaaKit4
namespace Go.Proofs.Ytelhlbplbkglkaa
open Go.RowKit
/-- Tn, as the program has it. -/
structure Tn where
  rate : Int
  grace : Bool
deriving DecidableEq, Inhabited
def Tn.cells (d : Tn) : List Value := [.int .i64 d.rate, .bool d.grace]
theorem Tn.cells_length (d : Tn) : d.cells.length = 2 := rfl
theorem Tn.one (L : List Tn) : ∀ u ∈ L.flatMap Tn.cells, u.oneCell' = true := by
  intro u hu
  obtain ⟨d, _, hd⟩ := List.mem_flatMap.1 hu
  simp only [Tn.cells, List.mem_cons, List.not_mem_nil, or_false] at hd
  rcases hd with rfl | rfl <;> rfl
/-- Ev, as the program has it. -/
structure Ev where
  kind : Int
  day : Int
  tranche : Int
  amount : Int
  ref : Int
deriving DecidableEq, Inhabited
def Ev.cells (d : Ev) : List Value := [.int .i64 d.kind, .int .i64 d.day, .int .i64 d.tranche, .int .i64 d.amount, .int .i64 d.ref]
theorem Ev.cells_length (d : Ev) : d.cells.length = 5 := rfl
theorem Ev.one (L : List Ev) : ∀ u ∈ L.flatMap Ev.cells, u.oneCell' = true := by
  intro u hu
  obtain ⟨d, _, hd⟩ := List.mem_flatMap.1 hu
  simp only [Ev.cells, List.mem_cons, List.not_mem_nil, or_false] at hd
  rcases hd with rfl | rfl | rfl | rfl | rfl <;> rfl
/-- Terms, as the program has them. -/
structure Tm where
  limit : Int
  cyc : Int
  due : Int
  minFixed : Int
  minPart : Int
  start : Int
  trs : List Tn
def Tm.val (t : Tm) (v : Value) : Value := .agg #[.int .i64 t.limit, v, .int .i64 t.cyc, .int .i64 t.due, .int .i64 t.minFixed, .int .i64 t.minPart, .int .i64 t.start]
def Ev.agg (e : Ev) : Value := .agg #[.int .i64 e.kind, .int .i64 e.day, .int .i64 e.tranche, .int .i64 e.amount, .int .i64 e.ref]
def inB (v a b : Int) : Bool := decide (a ≤ v) && decide (v ≤ b)
def Tn.okB (x : Tn) : Bool := inB x.rate 0 10000000
/-- Whether terms may be. -/
def Tm.okB (t : Tm) : Bool := inB t.limit 0 1000000000000000 && inB t.trs.length 1 8 && t.trs.all Tn.okB && (inB t.cyc 1 28 && inB t.due 1 25 && inB t.minFixed 0 1000000000000000 && inB t.minPart 0 1000 && inB t.start (-135140) 2922896)
def Tm.err (t : Tm) : Int := if t.okB then 0 else 6
set_option maxRecDepth 100000 in
set_option maxHeartbeats 400000 in
theorem tmBetween_any (v a b : Int) (w : World) : Calls Try.prog 64 #[.int .i64 v, .int .i64 a, .int .i64 b] w fun e w' => e = .returned (.bool (inB v a b)) ∧ w = w' := by
  by_cases h1 : a ≤ v
  · by_cases h2 : v ≤ b
    · have h : inB v a b = true := by simp [inB, h1, h2]
      have H := Lib.hid h; clear h
      go_enter Try.func64, Try.ntmps64
      go_wp2
      go_ret
      exact ⟨by rw [H.out]; rfl, rfl⟩
    · have h : inB v a b = false := by simp [inB, h2]
      have h2' : b < v := by omega
      have H := Lib.hid h; clear h
      go_enter Try.func64, Try.ntmps64
      go_wp2
      go_ret
      exact ⟨by rw [H.out]; rfl, rfl⟩
  · have h : inB v a b = false := by simp [inB, h1]
    have h1' : v < a := by omega
    have H := Lib.hid h; clear h
    go_enter Try.func64, Try.ntmps64
    go_wp2
    go_ret
    exact ⟨by rw [H.out]; rfl, rfl⟩
theorem tmBetween_at {v a b : Int} {r : Bool} (hr : inB v a b = r) (w : World) : Calls Try.prog 64 #[.int .i64 v, .int .i64 a, .int .i64 b] w fun e w' => e = .returned (.bool r) ∧ w = w' := by
  subst hr; exact tmBetween_any v a b w
set_option maxRecDepth 100000 in
set_option maxHeartbeats 400000 in
theorem rtmWithin_any (v a b : Int) (w : World) : Calls Try.prog 61 #[.int .i64 v, .int .i64 a, .int .i64 b] w fun e w' => e = .returned (.bool (inB v a b)) ∧ w = w' := by
  by_cases h1 : a ≤ v
  · by_cases h2 : v ≤ b
    · have h : inB v a b = true := by simp [inB, h1, h2]
      have H := Lib.hid h; clear h
      go_enter Try.func61, Try.ntmps61
      go_wp2
      go_ret
      exact ⟨by rw [H.out]; rfl, rfl⟩
    · have h : inB v a b = false := by simp [inB, h2]
      have h2' : b < v := by omega
      have H := Lib.hid h; clear h
      go_enter Try.func61, Try.ntmps61
      go_wp2
      go_ret
      exact ⟨by rw [H.out]; rfl, rfl⟩
  · have h : inB v a b = false := by simp [inB, h1]
    have h1' : v < a := by omega
    have H := Lib.hid h; clear h
    go_enter Try.func61, Try.ntmps61
    go_wp2
    go_ret
    exact ⟨by rw [H.out]; rfl, rfl⟩
theorem rtmWithin_at {v a b : Int} {r : Bool} (hr : inB v a b = r) (w : World) : Calls Try.prog 61 #[.int .i64 v, .int .i64 a, .int .i64 b] w fun e w' => e = .returned (.bool r) ∧ w = w' := by
  subst hr; exact rtmWithin_any v a b w
set_option maxRecDepth 100000 in
set_option maxHeartbeats 3200000 in
theorem tmRight_any (t : Tm) (ad : Option Addr) (cap : Nat) (w : World) (hr : Reads w 2 (.slice ad t.trs.length cap) t.trs.length (t.trs.flatMap Tn.cells)) (hl : t.trs.length ≤ 1000000) :
    Calls Try.prog 55 #[t.val (.slice ad t.trs.length cap)] w fun e w' => e = .returned (.int .i64 t.err) ∧ Keeps (fun _ => False) w w' := by
  obtain ⟨li, cy, du, mf, mp, st, L⟩ := t
  simp only [Tm.val] at hr hl ⊢
  rcases b1 : inB li 0 1000000000000000 with _ | _
  · have hf : Tm.err ⟨li, cy, du, mf, mp, st, L⟩ = 6 := by simp [Tm.err, Tm.okB, b1]
    have Hr := Lib.hid hr; clear hr; have Hf := Lib.hid hf; clear hf; have B1 := Lib.hid b1; clear b1
    go_enter Try.func55, Try.ntmps55
    go_wp2
    refine wp_scope_ahead 0 rfl ?_
    go_wp2_with (go_at_call 64; ((with_reducible refine (tmBetween_at B1.out _).mono ?_); rintro e w1 ⟨rfl, rfl⟩))
    go_step3
    go_wp2
    refine jump_goto ?_
    go_wp2
    rw [Exit.noGoto_ret]
    go_ret
    exact ⟨by rw [Hf.out]; rfl, by (repeat (first | exact Keeps.refl _ _ | exact Keeps.alloc _ _ | exact Keeps.drew _ | exact Keeps.drewN _ _ | refine Keeps.trans_drew ?_ | refine Keeps.trans_drewN ?_ | refine Keeps.trans_alloc ?_))⟩
  obtain ⟨n, hn⟩ : ∃ n, L.length = n := ⟨_, rfl⟩
  have hf0 : Tm.err ⟨li, cy, du, mf, mp, st, L⟩ = if (inB (n : Int) 1 8 && L.all Tn.okB && (inB cy 1 28 && inB du 1 25 && inB mf 0 1000000000000000 && inB mp 0 1000 && inB st (-135140) 2922896)) = true then 0 else 6 := by
    simp only [Tm.err, Tm.okB, b1, hn, Bool.true_and]
  rw [hn] at hr hl ⊢
  by_cases l1 : n < 1
  · have hf : Tm.err ⟨li, cy, du, mf, mp, st, L⟩ = 6 := by rw [hf0]; have : inB (n : Int) 1 8 = false := by simp [inB]; omega
                                                           simp [this]
    obtain rfl : n = 0 := by omega
    have Hr := Lib.hid hr; clear hr; have Hf := Lib.hid hf; clear hf; have B1 := Lib.hid b1; clear b1; have Hf0 := Lib.hid hf0; clear hf0; have Hn := Lib.hid hn; clear hn
    go_enter Try.func55, Try.ntmps55
    go_wp2
    refine wp_scope_ahead 0 rfl ?_
    go_wp2_with (go_at_call 64; ((with_reducible refine (tmBetween_at B1.out _).mono ?_); rintro e w1 ⟨rfl, rfl⟩))
    go_step3
    go_wp2
    refine jump_goto ?_
    go_wp2
    rw [Exit.noGoto_ret]
    go_ret
    exact ⟨by rw [Hf.out]; rfl, by (repeat (first | exact Keeps.refl _ _ | exact Keeps.alloc _ _ | exact Keeps.drew _ | exact Keeps.drewN _ _ | refine Keeps.trans_drew ?_ | refine Keeps.trans_drewN ?_ | refine Keeps.trans_alloc ?_))⟩
  by_cases l2 : 8 < n
  · have hf : Tm.err ⟨li, cy, du, mf, mp, st, L⟩ = 6 := by rw [hf0]; have : inB (n : Int) 1 8 = false := by simp [inB]; omega
                                                           simp [this]
    have l2' : (8 : Int) < (n : Int) := by omega
    have Hr := Lib.hid hr; clear hr; have Hf := Lib.hid hf; clear hf; have B1 := Lib.hid b1; clear b1; have Hf0 := Lib.hid hf0; clear hf0; have Hn := Lib.hid hn; clear hn
    go_enter Try.func55, Try.ntmps55
    go_wp2
    refine wp_scope_ahead 0 rfl ?_
    go_wp2_with (go_at_call 64; ((with_reducible refine (tmBetween_at B1.out _).mono ?_); rintro e w1 ⟨rfl, rfl⟩))
    go_step3
    go_wp2
    refine jump_goto ?_
    go_wp2
    rw [Exit.noGoto_ret]
    go_ret
    exact ⟨by rw [Hf.out]; rfl, by (repeat (first | exact Keeps.refl _ _ | exact Keeps.alloc _ _ | exact Keeps.drew _ | exact Keeps.drewN _ _ | refine Keeps.trans_drew ?_ | refine Keeps.trans_drewN ?_ | refine Keeps.trans_alloc ?_))⟩
  have l1' : (1 : Int) ≤ (n : Int) := by omega
  have l2' : (n : Int) ≤ 8 := by omega
  have b2 : inB (n : Int) 1 8 = true := by simp [inB]; omega
  rw [b2, Bool.true_and] at hf0
  have hbox := heap_alloc_new w (.cells #[.int .i64 li, .slice ad n cap, .int .i64 cy, .int .i64 du, .int .i64 mf, .int .i64 mp, .int .i64 st] 27)
  have Hr := Lib.hid hr; clear hr; have B1 := Lib.hid b1; clear b1; have B2 := Lib.hid b2; clear b2; have Hf0 := Lib.hid hf0; clear hf0; have Hn := Lib.hid hn; clear hn; have Hbox := Lib.hid hbox; clear hbox
  go_enter Try.func55, Try.ntmps55
  go_wp2
  refine wp_scope_ahead 0 rfl ?_
  go_wp2_with (go_at_call 64; ((with_reducible refine (tmBetween_at B1.out _).mono ?_); rintro e w1 ⟨rfl, rfl⟩))
  go_loopw [24] (fun c wr => ∃ j : Nat, j ≤ n ∧ c = .int .i64 (j : Nat) ∧ (L.take j).all Tn.okB = true ∧ Keeps (fun _ => False) w wr ∧ wr.heap[w.heap.size]? = some (.cells #[.int .i64 li, .slice ad n cap, .int .i64 cy, .int .i64 du, .int .i64 mf, .int .i64 mp, .int .i64 st] 27 (0, 0))) (fun c _ => n - (intOf c).toNat)
  case atStart => exact ⟨0, Nat.zero_le _, rfl, rfl, Keeps.alloc _ _, Hbox.out⟩
  case round =>
    obtain ⟨j, hj, rfl, hok, hk, hb⟩ := hrel
    have hbl := lt_of_block hb
    by_cases hjl : j < n
    · obtain ⟨⟨xr, xg⟩, hx⟩ := get_some (L := L) (k := j) (by rw [Hn.out]; exact hjl)
      obtain ⟨g, o, c, he, hc⟩ := (Hr.out.keeps hk (by simp)).elem Tn.cells_length hx (by decide)
      simp only [Value.slice.injEq, true_and] at he
      obtain ⟨rfl, rfl⟩ := he
      have x0 : wr.cell? ⟨g, o + j * 2, none⟩ = some (.int .i64 xr) := hc 0 (by decide)
      have x1 : wr.cell? ⟨g, o + j * 2 + 1, none⟩ = some (.bool xg) := hc 1 (by decide)
      have hgl := cell_lt x0
      clear hc
      rcases b3 : inB xr 0 10000000 with _ | _
      · have hall : L.all Tn.okB = false := by
          rw [Bool.eq_false_iff]; intro hm
          have := List.all_eq_true.1 hm _ (List.mem_of_getElem? hx)
          simp only [Tn.okB, b3] at this; simp at this
        have hf : Tm.err ⟨li, cy, du, mf, mp, st, L⟩ = 6 := by rw [Hf0.out, hall]; simp
        have Hx := Lib.hid hx; clear hx; have Hok := Lib.hid hok; clear hok; have Hk := Lib.hid hk; clear hk; have Hb := Lib.hid hb; clear hb; have B3 := Lib.hid b3; clear b3; have Hall := Lib.hid hall; clear hall; have Hf := Lib.hid hf; clear hf
        go_wp2_with (go_at_call 64; ((with_reducible refine (tmBetween_at B3.out _).mono ?_); rintro e w1 ⟨rfl, rfl⟩))
        go_step3
        go_wp2
        refine jump_goto ?_
        go_wp2
        rw [Exit.noGoto_ret]
        go_ret
        exact ⟨by rw [Hf.out]; rfl, Hk.out.nt (by (repeat (first | exact Keeps.refl _ _ | exact Keeps.alloc _ _ | exact Keeps.drew _ | exact Keeps.drewN _ _ | refine Keeps.trans_drew ?_ | refine Keeps.trans_drewN ?_ | refine Keeps.trans_alloc ?_)))⟩
      · have hok' : (L.take (j + 1)).all Tn.okB = true := by rw [take_snoc' hx, List.all_append, hok]; simp [Tn.okB, b3]
        have Hx := Lib.hid hx; clear hx; have Hok := Lib.hid hok; clear hok; have Hk := Lib.hid hk; clear hk; have Hb := Lib.hid hb; clear hb; have B3 := Lib.hid b3; clear b3; have Hok' := Lib.hid hok'; clear hok'
        go_wp2_with (go_at_call 64; ((with_reducible refine (tmBetween_at B3.out _).mono ?_); rintro e w1 ⟨rfl, rfl⟩))
        go_roundw
        case rel => exact ⟨j + 1, by omega, by go_num, Hok'.out, Hk.out.nt (by (repeat (first | exact Keeps.refl _ _ | exact Keeps.alloc _ _ | exact Keeps.drew _ | exact Keeps.drewN _ _ | refine Keeps.trans_drew ?_ | refine Keeps.trans_drewN ?_ | refine Keeps.trans_alloc ?_))), box_alloc Hb.out _⟩
        case measure => simp [intOf]; omega
    · obtain rfl : j = n := by omega
      have hall : L.all Tn.okB = true := by rw [List.take_of_length_le (by rw [Hn.out]; exact Nat.le_refl _)] at hok; exact hok
      have hf1 := Hf0.out
      rw [hall, Bool.true_and] at hf1
      have c2 : wr.cell? ⟨w.heap.size, 2, none⟩ = some (.int .i64 cy) := cell_of_cells hb 2
      have c3 : wr.cell? ⟨w.heap.size, 3, none⟩ = some (.int .i64 du) := cell_of_cells hb 3
      have c4 : wr.cell? ⟨w.heap.size, 4, none⟩ = some (.int .i64 mf) := cell_of_cells hb 4
      have c5 : wr.cell? ⟨w.heap.size, 5, none⟩ = some (.int .i64 mp) := cell_of_cells hb 5
      have c6 : wr.cell? ⟨w.heap.size, 6, none⟩ = some (.int .i64 st) := cell_of_cells hb 6
      have f1 : inB cy 1 28 = (decide (1 ≤ cy) && decide (cy ≤ 28)) := rfl
      have f2 : inB du 1 25 = (decide (1 ≤ du) && decide (du ≤ 25)) := rfl
      have f3 : inB st (-135140) 2922896 = (decide (-135140 ≤ st) && decide (st ≤ 2922896)) := rfl
      have F1 := Lib.hid f1; clear f1
      have F2 := Lib.hid f2; clear f2
      have F3 := Lib.hid f3; clear f3
      by_cases q : cy < 1
      · have hz : inB cy 1 28 = false := by rw [F1.out]; simp; omega
        have hf : Tm.err ⟨li, cy, du, mf, mp, st, L⟩ = 6 := by rw [hf1, hz]; simp
        have Hok := Lib.hid hok; clear hok; have Hk := Lib.hid hk; clear hk; have Hb := Lib.hid hb; clear hb; have Hall := Lib.hid hall; clear hall; have Hf := Lib.hid hf; clear hf; have Hf1 := Lib.hid hf1; clear hf1; have Hz := Lib.hid hz; clear hz
        go_wp2_with fail
        go_step3
        go_wp2
        refine jump_goto ?_
        go_wp2
        rw [Exit.noGoto_ret]
        go_ret
        exact ⟨by rw [Hf.out]; rfl, Hk.out⟩
      have p1 : 1 ≤ cy := by omega
      clear q
      by_cases q : 28 < cy
      · have hz : inB cy 1 28 = false := by rw [F1.out]; simp; omega
        have hf : Tm.err ⟨li, cy, du, mf, mp, st, L⟩ = 6 := by rw [hf1, hz]; simp
        have Hok := Lib.hid hok; clear hok; have Hk := Lib.hid hk; clear hk; have Hb := Lib.hid hb; clear hb; have Hall := Lib.hid hall; clear hall; have Hf := Lib.hid hf; clear hf; have Hf1 := Lib.hid hf1; clear hf1; have Hz := Lib.hid hz; clear hz
        go_wp2_with fail
        go_step3
        go_wp2
        refine jump_goto ?_
        go_wp2
        rw [Exit.noGoto_ret]
        go_ret
        exact ⟨by rw [Hf.out]; rfl, Hk.out⟩
      have p2 : cy ≤ 28 := by omega
      clear q
      by_cases q : du < 1
      · have hz : inB du 1 25 = false := by rw [F2.out]; simp; omega
        have hf : Tm.err ⟨li, cy, du, mf, mp, st, L⟩ = 6 := by rw [hf1, hz]; simp
        have Hok := Lib.hid hok; clear hok; have Hk := Lib.hid hk; clear hk; have Hb := Lib.hid hb; clear hb; have Hall := Lib.hid hall; clear hall; have Hf := Lib.hid hf; clear hf; have Hf1 := Lib.hid hf1; clear hf1; have Hz := Lib.hid hz; clear hz
        go_wp2_with fail
        go_step3
        go_wp2
        refine jump_goto ?_
        go_wp2
        rw [Exit.noGoto_ret]
        go_ret
        exact ⟨by rw [Hf.out]; rfl, Hk.out⟩
      have p3 : 1 ≤ du := by omega
      clear q
      by_cases q : 25 < du
      · have hz : inB du 1 25 = false := by rw [F2.out]; simp; omega
        have hf : Tm.err ⟨li, cy, du, mf, mp, st, L⟩ = 6 := by rw [hf1, hz]; simp
        have Hok := Lib.hid hok; clear hok; have Hk := Lib.hid hk; clear hk; have Hb := Lib.hid hb; clear hb; have Hall := Lib.hid hall; clear hall; have Hf := Lib.hid hf; clear hf; have Hf1 := Lib.hid hf1; clear hf1; have Hz := Lib.hid hz; clear hz
        go_wp2_with fail
        go_step3
        go_wp2
        refine jump_goto ?_
        go_wp2
        rw [Exit.noGoto_ret]
        go_ret
        exact ⟨by rw [Hf.out]; rfl, Hk.out⟩
      have p4 : du ≤ 25 := by omega
      clear q
      rcases bf : inB mf 0 1000000000000000 with _ | _
      · have hf : Tm.err ⟨li, cy, du, mf, mp, st, L⟩ = 6 := by rw [hf1, bf]; simp
        have Hok := Lib.hid hok; clear hok; have Hk := Lib.hid hk; clear hk; have Hb := Lib.hid hb; clear hb; have Hall := Lib.hid hall; clear hall; have Hf := Lib.hid hf; clear hf; have Hf1 := Lib.hid hf1; clear hf1; have Bf := Lib.hid bf; clear bf
        go_wp2_with (go_at_call 64; ((with_reducible refine (tmBetween_at Bf.out _).mono ?_); rintro e w1 ⟨rfl, rfl⟩))
        go_step3
        go_wp2
        refine jump_ret ?_
        go_ret
        exact ⟨by rw [Hf.out]; rfl, Hk.out⟩
      rcases bp : inB mp 0 1000 with _ | _
      · have hf : Tm.err ⟨li, cy, du, mf, mp, st, L⟩ = 6 := by rw [hf1, bp]; simp
        have Hok := Lib.hid hok; clear hok; have Hk := Lib.hid hk; clear hk; have Hb := Lib.hid hb; clear hb; have Hall := Lib.hid hall; clear hall; have Hf := Lib.hid hf; clear hf; have Hf1 := Lib.hid hf1; clear hf1; have Bf := Lib.hid bf; clear bf; have Bp := Lib.hid bp; clear bp
        go_wp2_with (first | (go_at_call 64; ((with_reducible refine (tmBetween_at Bf.out _).mono ?_); rintro e w1 ⟨rfl, rfl⟩)) | (go_at_call 64; ((with_reducible refine (tmBetween_at Bp.out _).mono ?_); rintro e w1 ⟨rfl, rfl⟩)))
        go_step3
        go_wp2
        refine jump_ret ?_
        go_ret
        exact ⟨by rw [Hf.out]; rfl, Hk.out⟩
      by_cases q : st < -135140
      · have hz : inB st (-135140) 2922896 = false := by rw [F3.out]; simp; omega
        have hf : Tm.err ⟨li, cy, du, mf, mp, st, L⟩ = 6 := by rw [hf1, hz]; simp
        have Hok := Lib.hid hok; clear hok; have Hk := Lib.hid hk; clear hk; have Hb := Lib.hid hb; clear hb; have Hall := Lib.hid hall; clear hall; have Hf := Lib.hid hf; clear hf; have Hf1 := Lib.hid hf1; clear hf1; have Hz := Lib.hid hz; clear hz; have Bf := Lib.hid bf; clear bf; have Bp := Lib.hid bp; clear bp
        go_wp2_with (first | (go_at_call 64; ((with_reducible refine (tmBetween_at Bf.out _).mono ?_); rintro e w1 ⟨rfl, rfl⟩)) | (go_at_call 64; ((with_reducible refine (tmBetween_at Bp.out _).mono ?_); rintro e w1 ⟨rfl, rfl⟩)))
        go_step3
        go_wp2
        refine jump_ret ?_
        go_ret
        exact ⟨by rw [Hf.out]; rfl, Hk.out⟩
      have p5 : -135140 ≤ st := by omega
      clear q
      by_cases q : 2922896 < st
      · have hz : inB st (-135140) 2922896 = false := by rw [F3.out]; simp; omega
        have hf : Tm.err ⟨li, cy, du, mf, mp, st, L⟩ = 6 := by rw [hf1, hz]; simp
        have Hok := Lib.hid hok; clear hok; have Hk := Lib.hid hk; clear hk; have Hb := Lib.hid hb; clear hb; have Hall := Lib.hid hall; clear hall; have Hf := Lib.hid hf; clear hf; have Hf1 := Lib.hid hf1; clear hf1; have Hz := Lib.hid hz; clear hz; have Bf := Lib.hid bf; clear bf; have Bp := Lib.hid bp; clear bp
        go_wp2_with (first | (go_at_call 64; ((with_reducible refine (tmBetween_at Bf.out _).mono ?_); rintro e w1 ⟨rfl, rfl⟩)) | (go_at_call 64; ((with_reducible refine (tmBetween_at Bp.out _).mono ?_); rintro e w1 ⟨rfl, rfl⟩)))
        go_step3
        go_wp2
        refine jump_ret ?_
        go_ret
        exact ⟨by rw [Hf.out]; rfl, Hk.out⟩
      have p6 : st ≤ 2922896 := by omega
      clear q
      have hf : Tm.err ⟨li, cy, du, mf, mp, st, L⟩ = 0 := by rw [hf1, bf, bp, F1.out, F2.out, F3.out]; simp; omega
      have Hok := Lib.hid hok; clear hok; have Hk := Lib.hid hk; clear hk; have Hb := Lib.hid hb; clear hb; have Hall := Lib.hid hall; clear hall; have Hf := Lib.hid hf; clear hf; have Hf1 := Lib.hid hf1; clear hf1; have Bf := Lib.hid bf; clear bf; have Bp := Lib.hid bp; clear bp
      go_wp2_with (first | (go_at_call 64; ((with_reducible refine (tmBetween_at Bf.out _).mono ?_); rintro e w1 ⟨rfl, rfl⟩)) | (go_at_call 64; ((with_reducible refine (tmBetween_at Bp.out _).mono ?_); rintro e w1 ⟨rfl, rfl⟩)))
      refine jump_ret ?_
      go_ret
      exact ⟨by rw [Hf.out]; rfl, Hk.out⟩
end Go.Proofs.Ytelhlbplbkglkaa
