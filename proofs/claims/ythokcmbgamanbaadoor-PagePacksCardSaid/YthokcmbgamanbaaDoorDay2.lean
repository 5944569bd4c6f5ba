/- The walk of day.Date. -/
import Derived.Test.YthokcmbgamanbaaDoorDay
namespace Go.Proofs.YthokcmbgamanbaaDoor
open Go.RowKit
def cellInt (W : World) (B j : Nat) : Int := match W.cell? ⟨B, j, none⟩ with | some (.int _ n) => n | _ => 0
theorem halloc_at2 (w : World) (o : Obj) {i : Nat} (h : i = w.heap.size) : (w.alloc o).heap[i]? = some o := by subst h; exact heap_alloc_new w o
theorem cellInt_of {W : World} {B j : Nat} {n : Int} (h : W.cell? ⟨B, j, none⟩ = some (.int .i64 n)) : cellInt W B j = n := by unfold cellInt; rw [h]
def ddFr (n : Int) (b : Nat) (u : Nat → Value) : Act := { tmps := #[.int .i64 n, u 1, (.pointer (some ⟨b, 0, none⟩)), u 3, (.pointer (some ⟨b + 1, 0, none⟩)), u 5, u 6, u 7, u 8, u 9, u 10, u 11, u 12, u 13, u 14, u 15, u 16, u 17, u 18, u 19, u 20, u 21, u 22, u 23, u 24, u 25, u 26, u 27, u 28, u 29, u 30, u 31, u 32, u 33, u 34, u 35, u 36, u 37, u 38, u 39, u 40, u 41, u 42, u 43, u 44, u 45, u 46, u 47, u 48, u 49, u 50, u 51, u 52, u 53, u 54, u 55], defers := [] }
structure DdW (w : World) (y m d : Int) (W : World) : Prop where
  kp : Keeps (fun _ => False) w W
  res : W.heap[w.heap.size]? = some (.cells #[.int .i64 0, .int .i64 0, .int .i64 0] 74 (0, 0))
  box : W.heap[w.heap.size + 1]? = some (.cells #[.int .i64 y, .int .i64 m, .int .i64 d] 74 (0, 0))
def YrOk (n : Int) : Prop := 1600 ≤ yearF n ∧ yearF n ≤ 9999 ∧ nY (yearF n) ≤ n ∧ n < nY (yearF n + 1)
def ddJ1 (w : World) (n : Int) (a' : Act) (W : World) : Prop := ∃ (y : Int) (u : Nat → Value), a' = ddFr n w.heap.size u ∧ DdW w y 1 1 W ∧ 1600 ≤ y ∧ y ≤ 9999 ∧ nY y ≤ n
def ddJ2 (w : World) (n : Int) (a' : Act) (W : World) : Prop := ∃ (j : Nat) (q : Int) (u : Nat → Value), a' = ddFr n w.heap.size u ∧ DdW w (yearF n) j (q + 1) W ∧ MoAt (yearF n) (n - nY (yearF n)) j q ∧ YrOk n
theorem ddJ1.mk {w : World} {n : Int} {a' : Act} {W : World} (y : Int) (h : a' = ddFr n w.heap.size (fun i => a'.tmps.getD i undef)) (hw : DdW w y 1 1 W) (h1 : 1600 ≤ y) (h2 : y ≤ 9999) (h3 : nY y ≤ n) : ddJ1 w n a' W := ⟨y, _, h, hw, h1, h2, h3⟩
theorem ddJ2.mk {w : World} {n : Int} {a' : Act} {W : World} (j : Nat) (q : Int) (h : a' = ddFr n w.heap.size (fun i => a'.tmps.getD i undef)) (hw : DdW w (yearF n) j (q + 1) W) (hm : MoAt (yearF n) (n - nY (yearF n)) j q) (hy : YrOk n) : ddJ2 w n a' W := ⟨j, q, _, h, hw, hm, hy⟩
section
variable {w W : World} {y m d : Int}
theorem DdW.set0 (h : DdW w y m d W) (v : Int) : DdW w v m d (W.setCell ⟨w.heap.size + 1, 0, none⟩ (.int .i64 v)) :=
  ⟨h.kp.trans (Keeps.setCell _ _ _ (.inr (by simp))), box_old h.res (Keeps.setCell (S := fun i => i = w.heap.size + 1) _ _ _ rfl) (by simp), (heap_setCell_same _ _ 0 _ _ _ h.box).trans rfl⟩
theorem DdW.set1 (h : DdW w y m d W) (v : Int) : DdW w y v d (W.setCell ⟨w.heap.size + 1, 1, none⟩ (.int .i64 v)) :=
  ⟨h.kp.trans (Keeps.setCell _ _ _ (.inr (by simp))), box_old h.res (Keeps.setCell (S := fun i => i = w.heap.size + 1) _ _ _ rfl) (by simp), (heap_setCell_same _ _ 1 _ _ _ h.box).trans rfl⟩
theorem DdW.set2 (h : DdW w y m d W) (v : Int) : DdW w y m v (W.setCell ⟨w.heap.size + 1, 2, none⟩ (.int .i64 v)) :=
  ⟨h.kp.trans (Keeps.setCell _ _ _ (.inr (by simp))), box_old h.res (Keeps.setCell (S := fun i => i = w.heap.size + 1) _ _ _ rfl) (by simp), (heap_setCell_same _ _ 2 _ _ _ h.box).trans rfl⟩
theorem DdW.keep {W' : World} (h : DdW w y m d W) (hk : Keeps (fun _ => False) W W') : DdW w y m d W' := ⟨h.kp.nt hk, box_old h.res hk (by simp), box_old h.box hk (by simp)⟩
end
def ddS (b : Nat) (y d : Int) (W : World) : Prop := W.cell? ⟨b, 0, none⟩ = some (.int .i64 y) ∧ W.cell? ⟨b, 2, none⟩ = some (.int .i64 d) ∧ W.frozen? ⟨b, 2, none⟩ = false
set_option maxRecDepth 100000 in
set_option maxHeartbeats 1600000 in
theorem dayDate_any (n : Int) (w : World) (hn : -9000000000000000000 ≤ n ∧ n ≤ 9000000000000000000) : Calls Tryd.prog 45 #[.int .i64 n] w fun e w' => e = .returned (.tuple #[.agg (if dayIn n = true then #[.int .i64 (dY n), .int .i64 (dM n), .int .i64 (dD n)] else #[.int .i64 0, .int .i64 0, .int .i64 0]), .int .i64 (if dayIn n = true then 0 else 10)]) ∧ Keeps (fun _ => False) w w' := by
  by_cases hin : -135140 ≤ n ∧ n ≤ 2932896
  · have hd : dayIn n = true := by simp [dayIn, hin]
    rw [if_pos hd, if_pos hd]
    obtain ⟨rY, hrY⟩ : ∃ a, dY n = a := ⟨_, rfl⟩
    obtain ⟨rM, hrM⟩ : ∃ a, dM n = a := ⟨_, rfl⟩
    obtain ⟨rD, hrD⟩ : ∃ a, dD n = a := ⟨_, rfl⟩
    rw [hrY, hrM, hrD]
    obtain ⟨hn1, hn2⟩ := hin
    have Hd := Lib.hid hd; clear hd; have HrY := Lib.hid hrY; clear hrY; have HrM := Lib.hid hrM; clear hrM; have HrD := Lib.hid hrD; clear hrD
    go_enter Tryd.func45, Tryd.ntmps45
    go_wp2
    refine wp_scope_back2 0 1 (ddJ1 w n) (ddJ2 w n) (fun _ W => (20000 - cellInt W (w.heap.size + 1) 0).toNat + 100) (fun _ W => (20 - cellInt W (w.heap.size + 1) 1).toNat) rfl rfl ?_ ?_ ?_
    · rintro a' W ⟨j, q, u, rfl, hw, hm, hy⟩
      unfold ddFr
      obtain ⟨y, hyy⟩ : ∃ y, yearF n = y := ⟨_, rfl⟩
      unfold YrOk at hy
      rw [hyy] at hw hm hy
      obtain ⟨h1, h2, h3, h4⟩ := hy
      have hlo := hm.lo
      have hhi := hm.hi
      have hq0 := hm.q0
      have hsum := hm.sum
      have hsucc := nY_succ h1
      have hyl := ylen_pos y
      have hml := (cumT_succ (y := y) (m := j) (by omega) (by omega)).2
      have hcall := fun W => dayLength_any y j (by omega) (by omega) (by omega) W
      obtain ⟨l, hl⟩ : ∃ l, mlen y j = l := ⟨_, rfl⟩
      rw [hl] at hcall hml
      have hcum : 0 ≤ cumT y j := by unfold cumT; split <;> (try split) <;> omega
      have c0 := cell_of_cells hw.box 0
      have c1 := cell_of_cells hw.box 1
      have c2 := cell_of_cells hw.box 2
      have f0 := free_of_cells hw.box 0
      have f1 := free_of_cells hw.box 1
      have f2 := free_of_cells hw.box 2
      have bl := lt_of_block hw.box
      have e0 := free_of_cells hw.res 0
      have e1 := free_of_cells hw.res 1
      have e2 := free_of_cells hw.res 2
      have d0 := cell_of_cells hw.res 0
      have d1 := cell_of_cells hw.res 1
      have d2 := cell_of_cells hw.res 2
      have dl := lt_of_block hw.res
      have hq1 : q ≤ 400 := by omega
      by_cases hgo : l ≤ q
      · have hnx := hm.next (by omega) (by rw [hl]; exact hgo)
        rw [hl] at hnx
        have Hw := Lib.hid hw; clear hw; have Hm := Lib.hid hm; clear hm; have Hcall := Lib.hid hcall; clear hcall; have Hl := Lib.hid hl; clear hl; have Hyy := Lib.hid hyy; clear hyy; have Hnx := Lib.hid hnx; clear hnx; have Hsum := Lib.hid hsum; clear hsum; have Hsucc := Lib.hid hsucc; clear hsucc; have Hcum := Lib.hid hcum; clear hcum
        go_wp2_with fail
        refine (Hcall.out W).mono ?_
        rintro e w1 ⟨rfl, rfl⟩
        go_wp2_with fail
        go_step3
        go_wp2
        have hd2 : DdW w (yearF n) ((j + 1 : Nat) : Int) (q - l + 1) ((W.setCell ⟨w.heap.size + 1, 2, none⟩ (.int .i64 (q + 1 - l))).setCell ⟨w.heap.size + 1, 1, none⟩ (.int .i64 ((j : Int) + 1))) := by
          rw [Hyy.out, show q - l + 1 = q + 1 - l by omega, show ((j + 1 : Nat) : Int) = (j : Int) + 1 by omega]
          exact (Hw.out.set2 _).set1 _
        refine jump2_2 ⟨ddJ2.mk (j + 1) (q - l) rfl hd2 (by rw [Hyy.out]; exact Hnx.out) (by unfold YrOk; rw [Hyy.out]; exact ⟨h1, h2, h3, h4⟩), ?_⟩
        have e1 := cellInt_of (cell_of_cells hd2.box 1)
        have e2 := cellInt_of (cell_of_cells Hw.out.box 1)
        show (20 - cellInt _ _ 1).toNat < (20 - cellInt _ _ 1).toNat
        rw [e1, e2]
        omega
      · have hdone := hm.done (by rw [hl]; exact hgo)
        have Hw := Lib.hid hw; clear hw; have Hm := Lib.hid hm; clear hm; have Hcall := Lib.hid hcall; clear hcall; have Hl := Lib.hid hl; clear hl; have Hyy := Lib.hid hyy; clear hyy; have Hdone := Lib.hid hdone; clear hdone; have Hsum := Lib.hid hsum; clear hsum; have Hsucc := Lib.hid hsucc; clear hsucc; have Hcum := Lib.hid hcum; clear hcum
        go_wp2_with fail
        refine (Hcall.out W).mono ?_
        rintro e w1 ⟨rfl, rfl⟩
        go_wp2
        refine jump2_ret ?_
        obtain rfl : rY = y := HrY.out.symm.trans Hyy.out
        obtain rfl : rM = j := HrM.out.symm.trans (by unfold dM; rw [Hyy.out, Hdone.out])
        obtain rfl : rD = q + 1 := HrD.out.symm.trans (by unfold dD; rw [Hyy.out, Hdone.out])
        have hb3 : (((W.setCell ⟨w.heap.size, 0, none⟩ (.int .i64 rY)).setCell ⟨w.heap.size, 1, none⟩ (.int .i64 (j : Int))).setCell ⟨w.heap.size, 2, none⟩ (.int .i64 (q + 1))).heap[w.heap.size]? = some (.cells #[.int .i64 rY, .int .i64 (j : Int), .int .i64 (q + 1)] 74 (0, 0)) := (heap_setCell_same _ _ 2 _ _ _ ((heap_setCell_same _ _ 1 _ _ _ ((heap_setCell_same _ _ 0 _ _ _ Hw.out.res).trans rfl)).trans rfl)).trans rfl
        have r0 := cell_of_cells hb3 0
        have r1 := cell_of_cells hb3 1
        have r2 := cell_of_cells hb3 2
        clear d0 d1 d2 c0 c1 c2
        exact bodyPost_ret (v := .tuple #[.agg #[.int .i64 rY, .int .i64 (j : Int), .int .i64 (q + 1)], .int .i64 0]) (by simp [results, Tryd.results45, go_sem, r0, r1, r2]) rfl ⟨rfl, Hw.out.kp.trans ((((Keeps.setCell (S := fun i => w.heap.size ≤ i) _ _ _ (Nat.le_refl _)).trans (Keeps.setCell _ _ _ (.inl (Nat.le_refl _)))).trans (Keeps.setCell _ _ _ (.inl (Nat.le_refl _)))).mono fun i _ h => .inr h)⟩
    · intro hp2
      rintro a' W ⟨y, u, rfl, hw, h1, h2, h3⟩
      unfold ddFr
      have hcall := fun W => dayNewYear_any (y + 1) (by omega) (by omega) W
      have hcall2 := fun W => dayNewYear_any y h1 (by omega) W
      obtain ⟨z, hz⟩ : ∃ z, nY (y + 1) = z := ⟨_, rfl⟩
      obtain ⟨v, hv⟩ : ∃ v, nY y = v := ⟨_, rfl⟩
      have hsucc := nY_succ h1
      have hyl := ylen_pos y
      have c0 := cell_of_cells hw.box 0
      have c1 := cell_of_cells hw.box 1
      have c2 := cell_of_cells hw.box 2
      have f0 := free_of_cells hw.box 0
      have f1 := free_of_cells hw.box 1
      have f2 := free_of_cells hw.box 2
      have bl := lt_of_block hw.box
      by_cases hgo : nY (y + 1) ≤ n
      · have hy9 : y + 1 ≤ 9999 := nY_lt (by omega) (by omega) (by have : nY (9999 + 1) = 2932897 := by decide
                                                                   omega)
        have h3' := hgo
        rw [hz] at hcall hgo
        rw [hv] at hcall2
        have Hw := Lib.hid hw; clear hw; have Hcall := Lib.hid hcall; clear hcall; have Hcall2 := Lib.hid hcall2; clear hcall2; have Hz := Lib.hid hz; clear hz; have Hv := Lib.hid hv; clear hv; have H3' := Lib.hid h3'; clear h3'; have H3 := Lib.hid h3; clear h3; have Hsucc := Lib.hid hsucc; clear hsucc
        go_wp2_with fail
        refine (Hcall.out W).mono ?_
        rintro e w1 ⟨rfl, rfl⟩
        go_wp2_with fail
        go_step3
        go_wp2
        refine jump2_1 ⟨ddJ1.mk (y + 1) rfl (Hw.out.set0 _) (by omega) (by omega) H3'.out, ?_⟩
        have e1 := cellInt_of (cell_of_cells (Hw.out.set0 (y + 1)).box 0)
        have e2 := cellInt_of (cell_of_cells Hw.out.box 0)
        show (20000 - cellInt _ _ 0).toNat + 100 < (20000 - cellInt _ _ 0).toNat + 100
        rw [e1, e2]
        omega
      · obtain ⟨hyf, _⟩ := yearF_eq h1 h3 (by omega) hn2
        have hok : YrOk n := by unfold YrOk; rw [hyf]; exact ⟨h1, h2, h3, by omega⟩
        have hn0 : 0 ≤ n - v := by omega
        have hw1 : IntKind.i64.wrap (n - v) = n - v := IntWalk.i64_in _ ⟨by omega, by omega⟩
        have hw2 : IntKind.i64.wrap (1 + (n - v)) = 1 + (n - v) := IntWalk.i64_in _ ⟨by omega, by omega⟩
        rw [hz] at hcall hgo
        rw [hv] at hcall2
        have hS : ∀ W', Keeps (fun _ => False) W W' → ddS (w.heap.size + 1) y 1 W' := fun W' hk => ⟨cell_of_cells (box_old hw.box hk (by simp)) 0, cell_of_cells (box_old hw.box hk (by simp)) 2, free_of_cells (box_old hw.box hk (by simp)) 2⟩
        have Hw := Lib.hid hw; clear hw; have Hcall := Lib.hid hcall; clear hcall; have Hcall2 := Lib.hid hcall2; clear hcall2; have Hz := Lib.hid hz; clear hz; have Hv := Lib.hid hv; clear hv; have H3 := Lib.hid h3; clear h3; have Hyf := Lib.hid hyf; clear hyf; have Hok := Lib.hid hok; clear hok; have Hsucc := Lib.hid hsucc; clear hsucc; have HS := Lib.hid hS; clear hS
        go_wp2_with fail
        refine (Hcall.out W).mono ?_
        rintro e w1 ⟨rfl, rfl⟩
        go_wp2_with fail
        refine wp_region_mixz (ddS (w.heap.size + 1) y 1) 9 (.take 0 (.take 1 (.take 2 (.take 3 (.take 4 (.take 5 (.take 6 (.take 7 (.take 8 (.move 9 .done)))))))))) (by kernel_rfl) (by kernel_rfl) ?_ ?_
        · exact HS.out _ (Keeps.drew _)
        intro w2 hs2 hk2
        repeat (first
          | (refine mix_skip rfl (by rfl) ?_; try simp only [Act.put, List.setIfInBounds_toArray, List.set_cons_zero, List.set_cons_succ])
          | (refine mix_skipm rfl (by rfl) ?_; try simp only [Act.put, List.setIfInBounds_toArray, List.set_cons_zero, List.set_cons_succ])
          | (refine mix_take (v := ?_) rfl (by rfl) ?_ ?_; rotate_left; (· intro w' hSw; unfold ddS at hSw; go_simp; (try with_reducible rfl)); rotate_right; try simp only [Act.put, List.setIfInBounds_toArray, List.set_cons_zero, List.set_cons_succ]))
        refine mix_pure (v := ?_) rfl (by rfl) ?_ ?_ ?_ ?_ ?_
        rotate_left 3
        · intro w' hSw; unfold ddS at hSw; go_simp; (first | done | (constructor <;> with_reducible rfl) | with_reducible rfl)
        · intro w' hSw; exact (Hcall2.out _)
        rotate_right 3
        try simp only [Act.put, List.setIfInBounds_toArray, List.set_cons_zero, List.set_cons_succ]
        repeat (first
          | (refine mix_skip rfl (by rfl) ?_; try simp only [Act.put, List.setIfInBounds_toArray, List.set_cons_zero, List.set_cons_succ])
          | (refine mix_skipm rfl (by rfl) ?_; try simp only [Act.put, List.setIfInBounds_toArray, List.set_cons_zero, List.set_cons_succ])
          | (refine mix_take (v := ?_) rfl (by rfl) ?_ ?_; rotate_left; (· intro w' hSw; unfold ddS at hSw; go_simp; (try with_reducible rfl)); rotate_right; try simp only [Act.put, List.setIfInBounds_toArray, List.set_cons_zero, List.set_cons_succ]))
        have hs3 := hs2
        unfold ddS at hs3
        obtain ⟨k0, k2, k3⟩ := hs3
        have k4 := cell_lt k2
        refine mix_last rfl (fun K hK => ?_)
        go_simp
        refine hK.out _ _ ?_
        clear hK K
        try simp only [Act.put, List.setIfInBounds_toArray, List.set_cons_zero, List.set_cons_succ]
        refine mix_done ?_
        have hw3 := (Hw.out.keep hk2).set2 (1 + (n - v))
        have hd2 : DdW w (yearF n) ((1 : Nat) : Int) (n - v + 1) (w2.setCell ⟨w.heap.size + 1, 2, none⟩ (.int .i64 (1 + (n - v)))) := by
          rw [Hyf.out, show n - v + 1 = 1 + (n - v) by omega]; exact hw3
        have hmo : MoAt (yearF n) (n - nY (yearF n)) 1 (n - v) := by rw [Hyf.out, Hv.out]; exact MoAt.start hn0
        have Hd2 := Lib.hid hd2; clear hd2; have Hmo := Lib.hid hmo; clear hmo; have Hw3 := Lib.hid hw3; clear hw3
        clear hs2 hk2 k0 k2 k3 k4
        go_wp2_with fail
        go_step3
        rename_i hK
        refine hK _ _ ?_
        refine wp_jump2_mono ?_ ?_ (hp2.out _ _ (ddJ2.mk 1 (n - v) rfl Hd2.out Hmo.out Hok.out))
        · intro a' w' h
          refine ⟨h.1, Nat.lt_of_lt_of_le h.2 ?_⟩
          have e1 := cellInt_of (cell_of_cells Hd2.out.box 1)
          show (20 - cellInt _ _ 1).toNat ≤ (20000 - cellInt _ _ 0).toNat + 100
          rw [e1]; omega
        · intro a' w' h
          refine ⟨h.1, Nat.lt_of_lt_of_le h.2 ?_⟩
          have e1 := cellInt_of (cell_of_cells Hd2.out.box 1)
          show (20 - cellInt _ _ 1).toNat ≤ (20000 - cellInt _ _ 0).toNat + 100
          rw [e1]; omega
    · intro hp1
      go_wp2_with fail
      go_step3
      rename_i hK
      refine hK _ _ ?_
      refine hp1.out _ _ ?_
      refine ddJ1.mk (1600 + (n + 135140) / 366) rfl ⟨by (repeat (first | exact Keeps.refl _ _ | exact Keeps.alloc _ _ | exact Keeps.drew _ | exact Keeps.drewN _ _ | refine Keeps.trans_drew ?_ | refine Keeps.trans_drewN ?_ | refine Keeps.trans_alloc ?_)), box_alloc (heap_alloc_new w _) _, halloc_at2 _ _ (by simp)⟩ (by omega) (by omega) (by unfold nY; omega)
  · have hd : dayIn n = false := by simp [dayIn]; omega
    have hdd : ¬ dayIn n = true := by rw [hd]; decide
    rw [if_neg hdd, if_neg hdd]
    have hc : n < -135140 ∨ 2932896 < n := by omega
    clear hin
    have Hd := Lib.hid hd; clear hd; have Hdd := Lib.hid hdd; clear hdd
    go_enter Tryd.func45, Tryd.ntmps45
    go_wp2
    refine wp_scope_ahead2 0 1 rfl rfl ?_
    rcases hc with hc | hc
    · go_wp2
      refine jump2_ret ?_
      exact bodyPost_ret (v := .tuple #[.agg #[.int .i64 0, .int .i64 0, .int .i64 0], .int .i64 10]) (by simp [results, Tryd.results45, go_sem]) rfl ⟨rfl, by (repeat (first | exact Keeps.refl _ _ | exact Keeps.alloc _ _ | exact Keeps.drew _ | exact Keeps.drewN _ _ | refine Keeps.trans_drew ?_ | refine Keeps.trans_drewN ?_ | refine Keeps.trans_alloc ?_))⟩
    · have hc2 : ¬ n < -135140 := by omega
      go_wp2
      refine jump2_ret ?_
      exact bodyPost_ret (v := .tuple #[.agg #[.int .i64 0, .int .i64 0, .int .i64 0], .int .i64 10]) (by simp [results, Tryd.results45, go_sem]) rfl ⟨rfl, by (repeat (first | exact Keeps.refl _ _ | exact Keeps.alloc _ _ | exact Keeps.drew _ | exact Keeps.drewN _ _ | refine Keeps.trans_drew ?_ | refine Keeps.trans_drewN ?_ | refine Keeps.trans_alloc ?_))⟩
end Go.Proofs.YthokcmbgamanbaaDoor
