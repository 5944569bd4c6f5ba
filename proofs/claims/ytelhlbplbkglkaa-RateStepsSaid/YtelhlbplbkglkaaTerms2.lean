/- Terms, as the document has them. -/
import Derived.Test.YtelhlbplbkglkaaTerms
import Derived.Deep.DeepCutAuto
namespace Go.Proofs.Ytelhlbplbkglkaa
open Go.RowKit
set_option maxRecDepth 100000 in
set_option maxHeartbeats 3200000 in
theorem rtmRight_any (t : Tm) (ad : Option Addr) (cap : Nat) (w : World) (hr : Reads w 2 (.slice ad t.trs.length cap) t.trs.length (t.trs.flatMap Tn.cells)) (hl : t.trs.length ≤ 1000000) :
    Calls Try.prog 43 #[t.val (.slice ad t.trs.length cap)] w fun e w' => e = .returned (.int .i64 t.err) ∧ Keeps (fun _ => False) w w' := by
  obtain ⟨li, cy, du, mf, mp, st, L⟩ := t
  simp only [Tm.val] at hr hl ⊢
  obtain ⟨n, hn⟩ : ∃ n, L.length = n := ⟨_, rfl⟩
  have hf0 : Tm.err ⟨li, cy, du, mf, mp, st, L⟩ = if (inB li 0 1000000000000000 && inB (n : Int) 1 8 && L.all Tn.okB && (inB cy 1 28 && inB du 1 25 && inB mf 0 1000000000000000 && inB mp 0 1000 && inB st (-135140) 2922896)) = true then 0 else 6 := by
    simp only [Tm.err, Tm.okB, hn]
  rw [hn] at hr hl ⊢
  obtain ⟨ok0, hok0⟩ : ∃ b, (inB li 0 1000000000000000 && inB (n : Int) 1 8) = b := ⟨_, rfl⟩
  rw [hok0] at hf0
  have hbox := heap_alloc_new w (.cells #[.int .i64 li, .slice ad n cap, .int .i64 cy, .int .i64 du, .int .i64 mf, .int .i64 mp, .int .i64 st] 27)
  have Hr := Lib.hid hr; clear hr; have Hf0 := Lib.hid hf0; clear hf0; have Hn := Lib.hid hn; clear hn; have Hbox := Lib.hid hbox; clear hbox
  go_enter Try.func43, Try.ntmps43
  go_upto_region 1 with (fail)
  go_cut [3] (fun s3 wx => s3 = .bool ok0 ∧ wx = w.alloc (.cells #[.int .i64 li, .slice ad n cap, .int .i64 cy, .int .i64 du, .int .i64 mf, .int .i64 mp, .int .i64 st] 27))
  case first =>
    rcases b1 : inB li 0 1000000000000000 with _ | _
    · have : ok0 = false := by rw [← hok0, b1]; rfl
      subst this
      have B1 := Lib.hid b1; clear b1; have Hok0 := Lib.hid hok0; clear hok0
      go_wp2_with (go_at_call 61; ((with_reducible refine (rtmWithin_at B1.out _).mono ?_); rintro e w1 ⟨rfl, rfl⟩))
      go_meet
      exact ⟨rfl, rfl⟩
    · by_cases l1 : n < 1
      · obtain rfl : n = 0 := by omega
        have : ok0 = false := by rw [← hok0, b1]; rfl
        subst this
        have B1 := Lib.hid b1; clear b1; have Hok0 := Lib.hid hok0; clear hok0
        go_wp2_with (go_at_call 61; ((with_reducible refine (rtmWithin_at B1.out _).mono ?_); rintro e w1 ⟨rfl, rfl⟩))
        go_meet
        exact ⟨rfl, rfl⟩
      · by_cases l2 : 8 < n
        · have : ok0 = false := by rw [← hok0, b1]; simp [inB]; omega
          subst this
          have l2' : (8 : Int) < (n : Int) := by omega
          have l1' : (1 : Int) ≤ (n : Int) := by omega
          have B1 := Lib.hid b1; clear b1; have Hok0 := Lib.hid hok0; clear hok0
          go_wp2_with (go_at_call 61; ((with_reducible refine (rtmWithin_at B1.out _).mono ?_); rintro e w1 ⟨rfl, rfl⟩))
          go_meet
          exact ⟨by simp; omega, rfl⟩
        · have : ok0 = true := by rw [← hok0, b1]; simp [inB]; omega
          subst this
          have l1' : (1 : Int) ≤ (n : Int) := by omega
          have l2' : (n : Int) ≤ 8 := by omega
          have B1 := Lib.hid b1; clear b1; have Hok0 := Lib.hid hok0; clear hok0
          go_wp2_with (go_at_call 61; ((with_reducible refine (rtmWithin_at B1.out _).mono ?_); rintro e w1 ⟨rfl, rfl⟩))
          go_meet
          exact ⟨rfl, rfl⟩
  case rest =>
    obtain ⟨rfl, rfl⟩ := hcut
    clear hok0
    go_wp2_with fail
    go_loopw [3, 4] (fun b c wr => ∃ (j : Nat) (ok : Bool), j ≤ n ∧ c = .int .i64 (j : Nat) ∧ b = .bool ok ∧ ok = (ok0 && (L.take j).all Tn.okB) ∧ Keeps (fun _ => False) w wr ∧ wr.heap[w.heap.size]? = some (.cells #[.int .i64 li, .slice ad n cap, .int .i64 cy, .int .i64 du, .int .i64 mf, .int .i64 mp, .int .i64 st] 27 (0, 0))) (fun _ c _ => n - (intOf c).toNat)
    case atStart => exact ⟨0, ok0, Nat.zero_le _, rfl, rfl, by simp, Keeps.alloc _ _, Hbox.out⟩
    case round =>
      obtain ⟨j, ok, hj, rfl, rfl, hok, hk, hb⟩ := hrel
      have hbl := lt_of_block hb
      have c1 : wr.cell? ⟨w.heap.size, 1, none⟩ = some (.slice ad n cap) := cell_of_cells hb 1
      by_cases hjl : j < n
      · obtain ⟨⟨xr, xg⟩, hx⟩ := get_some (L := L) (k := j) (by rw [Hn.out]; exact hjl)
        obtain ⟨g, o, c, he, hc⟩ := (Hr.out.keeps hk (by simp)).elem Tn.cells_length hx (by decide)
        simp only [Value.slice.injEq, true_and] at he
        obtain ⟨rfl, rfl⟩ := he
        have x0 : wr.cell? ⟨g, o + j * 2, none⟩ = some (.int .i64 xr) := hc 0 (by decide)
        clear hc
        have hok' : (ok && inB xr 0 10000000) = (ok0 && (L.take (j + 1)).all Tn.okB) := by
          rw [take_snoc' hx, List.all_append, hok]; simp [Tn.okB, Bool.and_assoc]
        cases ok with
        | false =>
          have Hx := Lib.hid hx; clear hx; have Hok := Lib.hid hok; clear hok; have Hk := Lib.hid hk; clear hk; have Hb := Lib.hid hb; clear hb; have Hok' := Lib.hid hok'; clear hok'
          go_wp2_with fail
          go_roundw
          case rel => exact ⟨j + 1, false, by omega, by go_num, rfl, by rw [← Hok'.out]; rfl, Hk.out, Hb.out⟩
          case measure => simp [intOf]; omega
        | true =>
          rcases b3 : inB xr 0 10000000 with _ | _
          · rw [b3] at hok'
            have Hx := Lib.hid hx; clear hx; have Hok := Lib.hid hok; clear hok; have Hk := Lib.hid hk; clear hk; have Hb := Lib.hid hb; clear hb; have Hok' := Lib.hid hok'; clear hok'; have B3 := Lib.hid b3; clear b3
            go_wp2_with (go_at_call 61; ((with_reducible refine (rtmWithin_at B3.out _).mono ?_); rintro e w1 ⟨rfl, rfl⟩))
            go_roundw
            case rel => exact ⟨j + 1, false, by omega, by go_num, rfl, by rw [← Hok'.out]; rfl, Hk.out, Hb.out⟩
            case measure => simp [intOf]; omega
          · rw [b3] at hok'
            have Hx := Lib.hid hx; clear hx; have Hok := Lib.hid hok; clear hok; have Hk := Lib.hid hk; clear hk; have Hb := Lib.hid hb; clear hb; have Hok' := Lib.hid hok'; clear hok'; have B3 := Lib.hid b3; clear b3
            go_wp2_with (go_at_call 61; ((with_reducible refine (rtmWithin_at B3.out _).mono ?_); rintro e w1 ⟨rfl, rfl⟩))
            go_roundw
            case rel => exact ⟨j + 1, true, by omega, by go_num, rfl, by rw [← Hok'.out]; rfl, Hk.out, Hb.out⟩
            case measure => simp [intOf]; omega
      · obtain rfl : j = n := by omega
        rw [List.take_of_length_le (by rw [Hn.out]; exact Nat.le_refl _)] at hok
        have hf1 := Hf0.out
        rw [← hok] at hf1
        have c2 : wr.cell? ⟨w.heap.size, 2, none⟩ = some (.int .i64 cy) := cell_of_cells hb 2
        have c3 : wr.cell? ⟨w.heap.size, 3, none⟩ = some (.int .i64 du) := cell_of_cells hb 3
        have c4 : wr.cell? ⟨w.heap.size, 4, none⟩ = some (.int .i64 mf) := cell_of_cells hb 4
        have c5 : wr.cell? ⟨w.heap.size, 5, none⟩ = some (.int .i64 mp) := cell_of_cells hb 5
        have c6 : wr.cell? ⟨w.heap.size, 6, none⟩ = some (.int .i64 st) := cell_of_cells hb 6
        cases ok with
        | false =>
          have hf : Tm.err ⟨li, cy, du, mf, mp, st, L⟩ = 6 := by rw [hf1]; simp
          have Hok := Lib.hid hok; clear hok; have Hk := Lib.hid hk; clear hk; have Hb := Lib.hid hb; clear hb; have Hf := Lib.hid hf; clear hf; have Hf1 := Lib.hid hf1; clear hf1
          go_wp2_with fail
          go_ret
          exact ⟨by rw [Hf.out]; rfl, Hk.out⟩
        | true =>
          rw [Bool.true_and] at hf1
          rcases bc : inB cy 1 28 with _ | _
          · have hf : Tm.err ⟨li, cy, du, mf, mp, st, L⟩ = 6 := by rw [hf1, bc]; simp
            have Hok := Lib.hid hok; clear hok; have Hk := Lib.hid hk; clear hk; have Hb := Lib.hid hb; clear hb; have Hf := Lib.hid hf; clear hf; have Hf1 := Lib.hid hf1; clear hf1; have Bc := Lib.hid bc; clear bc
            go_wp2_with (go_at_call 61; ((with_reducible refine (rtmWithin_at Bc.out _).mono ?_); rintro e w1 ⟨rfl, rfl⟩))
            go_ret
            exact ⟨by rw [Hf.out]; rfl, Hk.out⟩
          rcases bd : inB du 1 25 with _ | _
          · have hf : Tm.err ⟨li, cy, du, mf, mp, st, L⟩ = 6 := by rw [hf1, bd]; simp
            have Hok := Lib.hid hok; clear hok; have Hk := Lib.hid hk; clear hk; have Hb := Lib.hid hb; clear hb; have Hf := Lib.hid hf; clear hf; have Hf1 := Lib.hid hf1; clear hf1; have Bc := Lib.hid bc; clear bc; have Bd := Lib.hid bd; clear bd
            go_wp2_with (first | (go_at_call 61; ((with_reducible refine (rtmWithin_at Bc.out _).mono ?_); rintro e w1 ⟨rfl, rfl⟩)) | (go_at_call 61; ((with_reducible refine (rtmWithin_at Bd.out _).mono ?_); rintro e w1 ⟨rfl, rfl⟩)))
            go_ret
            exact ⟨by rw [Hf.out]; rfl, Hk.out⟩
          rcases bf : inB mf 0 1000000000000000 with _ | _
          · have hf : Tm.err ⟨li, cy, du, mf, mp, st, L⟩ = 6 := by rw [hf1, bf]; simp
            have Hok := Lib.hid hok; clear hok; have Hk := Lib.hid hk; clear hk; have Hb := Lib.hid hb; clear hb; have Hf := Lib.hid hf; clear hf; have Hf1 := Lib.hid hf1; clear hf1; have Bc := Lib.hid bc; clear bc; have Bd := Lib.hid bd; clear bd; have Bf := Lib.hid bf; clear bf
            go_wp2_with (first | (go_at_call 61; ((with_reducible refine (rtmWithin_at Bc.out _).mono ?_); rintro e w1 ⟨rfl, rfl⟩)) | (go_at_call 61; ((with_reducible refine (rtmWithin_at Bd.out _).mono ?_); rintro e w1 ⟨rfl, rfl⟩)) | (go_at_call 61; ((with_reducible refine (rtmWithin_at Bf.out _).mono ?_); rintro e w1 ⟨rfl, rfl⟩)))
            go_ret
            exact ⟨by rw [Hf.out]; rfl, Hk.out⟩
          rcases bp : inB mp 0 1000 with _ | _
          · have hf : Tm.err ⟨li, cy, du, mf, mp, st, L⟩ = 6 := by rw [hf1, bp]; simp
            have Hok := Lib.hid hok; clear hok; have Hk := Lib.hid hk; clear hk; have Hb := Lib.hid hb; clear hb; have Hf := Lib.hid hf; clear hf; have Hf1 := Lib.hid hf1; clear hf1; have Bc := Lib.hid bc; clear bc; have Bd := Lib.hid bd; clear bd; have Bf := Lib.hid bf; clear bf; have Bp := Lib.hid bp; clear bp
            go_wp2_with (first | (go_at_call 61; ((with_reducible refine (rtmWithin_at Bc.out _).mono ?_); rintro e w1 ⟨rfl, rfl⟩)) | (go_at_call 61; ((with_reducible refine (rtmWithin_at Bd.out _).mono ?_); rintro e w1 ⟨rfl, rfl⟩)) | (go_at_call 61; ((with_reducible refine (rtmWithin_at Bf.out _).mono ?_); rintro e w1 ⟨rfl, rfl⟩)) | (go_at_call 61; ((with_reducible refine (rtmWithin_at Bp.out _).mono ?_); rintro e w1 ⟨rfl, rfl⟩)))
            go_ret
            exact ⟨by rw [Hf.out]; rfl, Hk.out⟩
          rcases bs : inB st (-135140) 2922896 with _ | _
          · have hf : Tm.err ⟨li, cy, du, mf, mp, st, L⟩ = 6 := by rw [hf1, bs]; simp
            have Hok := Lib.hid hok; clear hok; have Hk := Lib.hid hk; clear hk; have Hb := Lib.hid hb; clear hb; have Hf := Lib.hid hf; clear hf; have Hf1 := Lib.hid hf1; clear hf1; have Bc := Lib.hid bc; clear bc; have Bd := Lib.hid bd; clear bd; have Bf := Lib.hid bf; clear bf; have Bp := Lib.hid bp; clear bp; have Bs := Lib.hid bs; clear bs
            go_wp2_with (first | (go_at_call 61; ((with_reducible refine (rtmWithin_at Bc.out _).mono ?_); rintro e w1 ⟨rfl, rfl⟩)) | (go_at_call 61; ((with_reducible refine (rtmWithin_at Bd.out _).mono ?_); rintro e w1 ⟨rfl, rfl⟩)) | (go_at_call 61; ((with_reducible refine (rtmWithin_at Bf.out _).mono ?_); rintro e w1 ⟨rfl, rfl⟩)) | (go_at_call 61; ((with_reducible refine (rtmWithin_at Bp.out _).mono ?_); rintro e w1 ⟨rfl, rfl⟩)) | (go_at_call 61; ((with_reducible refine (rtmWithin_at Bs.out _).mono ?_); rintro e w1 ⟨rfl, rfl⟩)))
            go_ret
            exact ⟨by rw [Hf.out]; rfl, Hk.out⟩
          have hf : Tm.err ⟨li, cy, du, mf, mp, st, L⟩ = 0 := by rw [hf1, bc, bd, bf, bp, bs]; simp
          have Hok := Lib.hid hok; clear hok; have Hk := Lib.hid hk; clear hk; have Hb := Lib.hid hb; clear hb; have Hf := Lib.hid hf; clear hf; have Hf1 := Lib.hid hf1; clear hf1; have Bc := Lib.hid bc; clear bc; have Bd := Lib.hid bd; clear bd; have Bf := Lib.hid bf; clear bf; have Bp := Lib.hid bp; clear bp; have Bs := Lib.hid bs; clear bs
          go_wp2_with (first | (go_at_call 61; ((with_reducible refine (rtmWithin_at Bc.out _).mono ?_); rintro e w1 ⟨rfl, rfl⟩)) | (go_at_call 61; ((with_reducible refine (rtmWithin_at Bd.out _).mono ?_); rintro e w1 ⟨rfl, rfl⟩)) | (go_at_call 61; ((with_reducible refine (rtmWithin_at Bf.out _).mono ?_); rintro e w1 ⟨rfl, rfl⟩)) | (go_at_call 61; ((with_reducible refine (rtmWithin_at Bp.out _).mono ?_); rintro e w1 ⟨rfl, rfl⟩)) | (go_at_call 61; ((with_reducible refine (rtmWithin_at Bs.out _).mono ?_); rintro e w1 ⟨rfl, rfl⟩)))
          go_ret
          exact ⟨by rw [Hf.out]; rfl, Hk.out⟩
end Go.Proofs.Ytelhlbplbkglkaa
