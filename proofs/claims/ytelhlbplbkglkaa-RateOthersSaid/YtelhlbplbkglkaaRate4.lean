/- The walks of the rate layer: On; the document's right, and its rate of a day. -/
import Derived.Test.YtelhlbplbkglkaaRate3
import Derived.Test.YtelhlbplbkglkaaEvent2
namespace Go.Proofs.Ytelhlbplbkglkaa
open Go.RowKit
def onVal (t : Tm) (L : List Ev) (tr d : Int) : Int := if daysErr t L tr d d = 0 then rateAt (t.rate0 tr) t.start L tr d else 0
set_option maxRecDepth 100000 in
set_option maxHeartbeats 1600000 in
theorem rateOn_any (t : Tm) (adt : Option Addr) (ct : Nat) (L : List Ev) (ad : Option Addr) (cap : Nat) (tr d : Int) (w : World) (htr : Reads w 2 (.slice adt t.trs.length ct) t.trs.length (t.trs.flatMap Tn.cells)) (hr : Reads w 5 (.slice ad L.length cap) L.length (L.flatMap Ev.cells)) (hl : L.length ≤ 1000000) (htl : t.trs.length ≤ 1000000) :
    Calls Try.prog 29 #[t.val (.slice adt t.trs.length ct), .slice ad L.length cap, .int .i64 tr, .int .i64 d] w fun e w' => e = .returned (.tuple #[.int .i64 (onVal t L tr d), .int .i64 (daysErr t L tr d d)]) ∧ Keeps (fun _ => False) w w' := by
  have hdy := fun W (hW : Keeps (fun _ => False) w W) => rateDays_any t adt ct L ad cap tr d d W (htr.keeps hW (by simp)) (hr.keeps hW (by simp)) hl htl
  have htb : ∀ W, Keeps (fun _ => False) (w.alloc (.cells #[.int .i64 t.limit, .slice adt t.trs.length ct, .int .i64 t.cyc, .int .i64 t.due, .int .i64 t.minFixed, .int .i64 t.minPart, .int .i64 t.start] 27)) W → tbS w.heap.size t (.slice adt t.trs.length ct) W := fun W hW => tbS.of (box_old (heap_alloc_new w _) hW (by simp))
  obtain ⟨z, hz⟩ : ∃ z, daysErr t L tr d d = z := ⟨_, rfl⟩
  obtain ⟨v, hv⟩ : ∃ v, onVal t L tr d = v := ⟨_, rfl⟩
  obtain ⟨nt, hnt⟩ : ∃ n, t.trs.length = n := ⟨_, rfl⟩
  obtain ⟨n, hn⟩ : ∃ n, L.length = n := ⟨_, rfl⟩
  have hv' := hv
  unfold onVal at hv'
  have hdo : daysOf t L tr d d = if z = 0 then [v] else [] := by
    unfold daysOf
    rw [hz] at hv' ⊢
    by_cases h0 : z = 0
    · rw [if_pos h0] at hv' ⊢
      rw [if_pos h0, ← hv']
      rw [show (d - d + 1).toNat = 1 by omega]
      simp [daysL]
    · rw [if_neg h0, if_neg h0]
  rw [hz] at hdy hv' ⊢
  rw [hv]
  rw [hdo] at hdy
  rw [hnt] at htr hdy htb htl ⊢
  rw [hn] at hr hdy hl ⊢
  simp only [Tm.val] at hdy ⊢
  have Htr := Lib.hid htr; clear htr; have Hr := Lib.hid hr; clear hr; have Hdy := Lib.hid hdy; clear hdy; have Htb := Lib.hid htb; clear htb; have Hz := Lib.hid hz; clear hz; have Hv := Lib.hid hv; clear hv; have Hnt := Lib.hid hnt; clear hnt; have Hn := Lib.hid hn; clear hn; have Hdo := Lib.hid hdo; clear hdo
  go_enter Try.func29, Try.ntmps29
  go_wp2_with fail
  refine (Hdy.out _ (Keeps.alloc _ _)).mono ?_
  rintro e w1 ⟨v1, rfl, hr1, hf1⟩
  have hk1 : Keeps (fun _ => False) w w1 := (Keeps.alloc _ _).nt hf1.1
  by_cases h0 : z = 0
  · subst h0
    rw [if_pos rfl] at hr1
    obtain ⟨ad1, c1, he1, _, _⟩ := ownsRow_shape hr1
    subst he1
    obtain ⟨g, o, rfl, hc⟩ := Reads.int (k := .i64) (L := [v]) (Reads.of_owns hr1) (i := 0) rfl
    have hgl := cell_lt hc
    simp only [Nat.add_zero, List.length_cons, List.length_nil, Nat.zero_add] at hc hgl ⊢
    have Hk1 := Lib.hid hk1; clear hk1
    clear hr1 hf1
    go_wp2
    exact bodyPost_ret (v := .tuple #[.int .i64 v, .int .i64 0]) (by simp [results, Try.results29, go_sem]) rfl ⟨rfl, Hk1.out⟩
  · have hv0 : v = 0 := by rw [← hv', if_neg h0]
    subst hv0
    rw [if_neg h0] at hr1
    obtain ⟨ad1, c1, he1, _, _⟩ := ownsRow_shape hr1
    subst he1
    have hzI : (z != 0) = true := by simp [h0]
    have Hk1 := Lib.hid hk1; clear hk1
    clear hr1 hf1
    go_wp2
    exact bodyPost_ret (v := .tuple #[.int .i64 0, .int .i64 z]) (by simp [results, Try.results29, go_sem]) rfl ⟨rfl, Hk1.out⟩
/-- The terms' box, and an event. -/
def rrS (E : Nat) (t : Tm) (v : Value) (g o : Nat) (x : Ev) (w : World) : Prop := tbS E t v w ∧ w.cell? ⟨g, o, none⟩ = some (.int .i64 x.kind) ∧ w.cell? ⟨g, o + 1, none⟩ = some (.int .i64 x.day) ∧ w.cell? ⟨g, o + 2, none⟩ = some (.int .i64 x.tranche) ∧ w.cell? ⟨g, o + 3, none⟩ = some (.int .i64 x.amount) ∧ w.cell? ⟨g, o + 4, none⟩ = some (.int .i64 x.ref)
theorem rrS.keep {E : Nat} {t : Tm} {v : Value} {g o : Nat} {x : Ev} {w w' : World} (h : rrS E t v g o x w) (hk : Keeps (fun _ => False) w w') : rrS E t v g o x w' := by
  obtain ⟨h0, e0, e1, e2, e3, e4⟩ := h
  exact ⟨h0.keep hk, (hk.cell (cell_lt e0) (by simp)).trans e0, (hk.cell (cell_lt e1) (by simp)).trans e1, (hk.cell (cell_lt e2) (by simp)).trans e2, (hk.cell (cell_lt e3) (by simp)).trans e3, (hk.cell (cell_lt e4) (by simp)).trans e4⟩
set_option maxRecDepth 100000 in
set_option maxHeartbeats 1600000 in
theorem rrateRight_any (t : Tm) (adt : Option Addr) (ct : Nat) (L : List Ev) (ad : Option Addr) (cap : Nat) (w : World) (htr : Reads w 2 (.slice adt t.trs.length ct) t.trs.length (t.trs.flatMap Tn.cells)) (hr : Reads w 5 (.slice ad L.length cap) L.length (L.flatMap Ev.cells)) (hl : L.length ≤ 1000000) (htl : t.trs.length ≤ 1000000) :
    Calls Try.prog 49 #[t.val (.slice adt t.trs.length ct), .slice ad L.length cap] w fun e w' => e = .returned (.int .i64 (rightErr t L)) ∧ Keeps (fun _ => False) w w' := by
  have htm := fun W (hW : Keeps (fun _ => False) w W) => rtmRight_any t adt ct W (htr.keeps hW (by simp)) htl
  have hev := fun x W (hW : Keeps (fun _ => False) w W) => revRight_any t x adt ct W (htr.keeps hW (by simp)) htl
  have hbx : ∀ W, Keeps (fun _ => False) (w.alloc (.cells #[.int .i64 t.limit, .slice adt t.trs.length ct, .int .i64 t.cyc, .int .i64 t.due, .int .i64 t.minFixed, .int .i64 t.minPart, .int .i64 t.start] 27)) W → W.heap[w.heap.size]? = some (.cells #[.int .i64 t.limit, .slice adt t.trs.length ct, .int .i64 t.cyc, .int .i64 t.due, .int .i64 t.minFixed, .int .i64 t.minPart, .int .i64 t.start] 27 (0, 0)) := fun W hW => box_old (heap_alloc_new w _) hW (by simp)
  obtain ⟨z, hz⟩ : ∃ z, rightErr t L = z := ⟨_, rfl⟩
  have hz' := hz
  unfold rightErr at hz'
  obtain ⟨y, hy⟩ : ∃ y, t.err = y := ⟨_, rfl⟩
  obtain ⟨nt, hnt⟩ : ∃ n, t.trs.length = n := ⟨_, rfl⟩
  obtain ⟨n, hn⟩ : ∃ n, L.length = n := ⟨_, rfl⟩
  rw [hz]
  rw [hnt] at htm hev hbx htl htr ⊢
  rw [hn] at hr hl ⊢
  rw [hy] at htm hz'
  simp only [Tm.val] at htm hev ⊢
  by_cases hy0 : y = 0
  · subst hy0
    rw [if_pos rfl] at hz'
    have Htm := Lib.hid htm; clear htm; have Hev := Lib.hid hev; clear hev; have Hbx := Lib.hid hbx; clear hbx; have Htr := Lib.hid htr; clear htr; have Hr := Lib.hid hr; clear hr; have Hz := Lib.hid hz; clear hz; have Hz' := Lib.hid hz'; clear hz'; have Hy := Lib.hid hy; clear hy; have Hnt := Lib.hid hnt; clear hnt; have Hn := Lib.hid hn; clear hn
    go_enter Try.func49, Try.ntmps49
    go_wp2_with (go_at_call 43; (refine (Htm.out _ (Keeps.alloc _ _)).mono ?_); rintro e w1 ⟨rfl, hk1⟩; have Hk1 := Lib.hid hk1; clear hk1; refine haltR ?_)
    refine Lib.hid ?_
    go_wp2
    go_loopw [5] (fun x wx => ∃ i : Nat, x = .int .i64 (i : Nat) ∧ i ≤ n ∧ (∀ j y, j < i → L[j]? = some y → evErr t y = 0) ∧ Keeps (fun _ => False) w1 wx) (fun x _ => n - (intOf x).toNat)
    case atStart => exact ⟨0, rfl, Nat.zero_le _, fun j y h => absurd h (Nat.not_lt_zero _), Keeps.refl _ _⟩
    case round =>
      obtain ⟨i, rfl, hin, hall, hk⟩ := hrel
      obtain ⟨wq, hwq⟩ : ∃ x, x = wr := ⟨_, rfl⟩
      subst hwq
      have hkw := (Keeps.alloc (S := fun _ => False) w (.cells #[.int .i64 t.limit, .slice adt nt ct, .int .i64 t.cyc, .int .i64 t.due, .int .i64 t.minFixed, .int .i64 t.minPart, .int .i64 t.start] 27)).nt (Hk1.out.nt hk)
      by_cases hlt : i < n
      · have hltI : (i : Int) < (n : Int) := by omega
        obtain ⟨x, hx⟩ := get_some (L := L) (k := i) (by rw [Hn.out]; exact hlt)
        obtain ⟨g, o, hcl⟩ : ∃ g o, ad = some ⟨g, o, none⟩ ∧ rrS w.heap.size t (.slice adt nt ct) g (o + i * 5) x wq.drew := by
          obtain ⟨g, o, c', he, hc⟩ := (Hr.out.keeps (hkw.nt (Keeps.drew wq)) (by simp)).elem Ev.cells_length hx (by decide)
          simp only [Value.slice.injEq, true_and] at he
          obtain ⟨rfl, rfl⟩ := he
          exact ⟨g, o, rfl, tbS.of (Hbx.out _ ((Hk1.out.nt hk).nt (Keeps.drew wq))), hc 0 (by decide), hc 1 (by decide), hc 2 (by decide), hc 3 (by decide), hc 4 (by decide)⟩
        obtain ⟨rfl, hcl⟩ := hcl
        obtain ⟨q, hq⟩ : ∃ q, evErr t x = q := ⟨_, rfl⟩
        have hcall := Hev.out x
        rw [hq] at hcall
        obtain ⟨xk, xd, xt, xa, xf⟩ := x
        simp only [Ev.agg] at hcall
        have Hall := Lib.hid hall; clear hall; have Hk := Lib.hid hk; clear hk; have Hkw := Lib.hid hkw; clear hkw; have Hx := Lib.hid hx; clear hx; have Hq := Lib.hid hq; clear hq; have Hcall := Lib.hid hcall; clear hcall; have Hcl := Lib.hid hcl; clear hcl
        go_wp2_with fail
        refine wp_region_mixw (rrS w.heap.size t (.slice adt nt ct) g (o + i * 5) ⟨xk, xd, xt, xa, xf⟩) (.take 0 (.take 1 (.take 2 (.take 3 (.take 4 (.move 5 (.take 6 .done))))))) (by kernel_rfl) (by kernel_rfl) ?_ ?_
        · exact Hcl.out
        intro w2 hs2 hk2
        repeat (first
          | (refine mix_skip rfl (by rfl) ?_; try simp only [Act.put, List.setIfInBounds_toArray, List.set_cons_zero, List.set_cons_succ])
          | (refine mix_skipm rfl (by rfl) ?_; try simp only [Act.put, List.setIfInBounds_toArray, List.set_cons_zero, List.set_cons_succ])
          | (refine mix_take (v := ?_) rfl (by rfl) ?_ ?_; rotate_left; (· intro w' hSw; unfold rrS tbS at hSw; go_simp; (try with_reducible rfl)); rotate_right; try simp only [Act.put, List.setIfInBounds_toArray, List.set_cons_zero, List.set_cons_succ]))
        refine mix_move rfl (fun K hK => ?_)
        go_simp
        go_at_call 17
        ((with_reducible refine (Hcall.out w2 (Hkw.out.nt hk2)).mono ?_); rintro e w3 ⟨rfl, hk3⟩; dsimp only)
        refine hK.out _ _ (by exact hs2.keep hk3) ?_
        clear hK K
        try simp only [Act.put, List.setIfInBounds_toArray, List.set_cons_zero, List.set_cons_succ]
        repeat (first
          | (refine mix_skip rfl (by rfl) ?_; try simp only [Act.put, List.setIfInBounds_toArray, List.set_cons_zero, List.set_cons_succ])
          | (refine mix_skipm rfl (by rfl) ?_; try simp only [Act.put, List.setIfInBounds_toArray, List.set_cons_zero, List.set_cons_succ])
          | (refine mix_take (v := ?_) rfl (by rfl) ?_ ?_; rotate_left; (· intro w' hSw; unfold rrS tbS at hSw; go_simp; (try with_reducible rfl)); rotate_right; try simp only [Act.put, List.setIfInBounds_toArray, List.set_cons_zero, List.set_cons_succ]))
        refine mix_done ?_
        have Hk3 := Lib.hid (Hk.out.nt (hk2.nt hk3))
        clear hs2 hk2 hk3
        by_cases hq0 : q = 0
        · subst hq0
          have hall2 : ∀ j y, j < i + 1 → L[j]? = some y → evErr t y = 0 := fun j y hj hy => by
            rcases Nat.lt_or_ge j i with h | h
            · exact Hall.out j y h hy
            · obtain rfl : j = i := by omega
              rw [Hx.out] at hy; cases hy; exact Hq.out
          have Hall2 := Lib.hid hall2; clear hall2
          go_wp2_with fail
          go_roundw
          case rel => exact ⟨i + 1, by go_num, by omega, Hall2.out, Hk3.out⟩
          case measure => simp [intOf]; omega
        · have he := evsErr_at Hall.out Hx.out (by rw [Hq.out]; exact hq0)
          have hqI : (q != 0) = true := by simp [hq0]
          rw [Hq.out] at he
          have hkw3 := (Keeps.alloc (S := fun _ => False) w (.cells #[.int .i64 t.limit, .slice adt nt ct, .int .i64 t.cyc, .int .i64 t.due, .int .i64 t.minFixed, .int .i64 t.minPart, .int .i64 t.start] 27)).nt (Hk1.out.nt Hk3.out)
          have He := Lib.hid he; clear he; have Hkw3 := Lib.hid hkw3; clear hkw3
          go_wp2
          go_ret
          exact ⟨by have h := Hz'.out; rw [He.out] at h; subst h; rfl, Hkw3.out⟩
      · obtain rfl : i = n := by omega
        have he := evsErr_all (t := t) (L := L) fun x hx => by
          obtain ⟨j, hj⟩ := List.getElem?_of_mem hx
          exact hall j x (by rw [← Hn.out]; exact lt_of_get hj) hj
        have h := Hz'.out
        rw [he] at h
        subst h
        have Hall := Lib.hid hall; clear hall; have Hk := Lib.hid hk; clear hk; have Hkw := Lib.hid hkw; clear hkw; have He := Lib.hid he; clear he
        go_wp2
        go_ret
        exact ⟨rfl, Hkw.out⟩
  · rw [if_neg hy0] at hz'
    have hy6 := Tm.err_or t
    rw [hy] at hy6
    obtain rfl : y = 6 := hy6.resolve_left hy0
    subst hz'
    have Htm := Lib.hid htm; clear htm; have Hev := Lib.hid hev; clear hev; have Hbx := Lib.hid hbx; clear hbx; have Htr := Lib.hid htr; clear htr; have Hr := Lib.hid hr; clear hr; have Hz := Lib.hid hz; clear hz; have Hy := Lib.hid hy; clear hy; have Hnt := Lib.hid hnt; clear hnt; have Hn := Lib.hid hn; clear hn
    go_enter Try.func49, Try.ntmps49
    go_wp2_with (go_at_call 43; (refine (Htm.out _ (Keeps.alloc _ _)).mono ?_); rintro e w1 ⟨rfl, hk1⟩; have Hk1 := Lib.hid hk1; clear hk1)
    go_ret
    exact ⟨rfl, (Keeps.alloc w _).nt Hk1.out⟩
end Go.Proofs.Ytelhlbplbkglkaa
