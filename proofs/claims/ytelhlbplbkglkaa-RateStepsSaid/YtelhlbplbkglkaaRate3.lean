/- The walks of the rate layer: right, Days, On. -/
import Derived.Test.YtelhlbplbkglkaaRate2
import Derived.Test.YtelhlbplbkglkaaEvent
namespace Go.Proofs.Ytelhlbplbkglkaa
open Go.RowKit
theorem haltR {p : Prop} (h : Hid p) : p := h.out
/-- The terms' box. -/
def tbS (E : Nat) (t : Tm) (v : Value) (w : World) : Prop :=
  w.cell? ⟨E, 0, none⟩ = some (.int .i64 t.limit) ∧ w.cell? ⟨E, 1, none⟩ = some v ∧ w.cell? ⟨E, 2, none⟩ = some (.int .i64 t.cyc) ∧ w.cell? ⟨E, 3, none⟩ = some (.int .i64 t.due) ∧ w.cell? ⟨E, 4, none⟩ = some (.int .i64 t.minFixed) ∧ w.cell? ⟨E, 5, none⟩ = some (.int .i64 t.minPart) ∧ w.cell? ⟨E, 6, none⟩ = some (.int .i64 t.start)
theorem tbS.of {E : Nat} {t : Tm} {v : Value} {w : World} (hb : w.heap[E]? = some (.cells #[.int .i64 t.limit, v, .int .i64 t.cyc, .int .i64 t.due, .int .i64 t.minFixed, .int .i64 t.minPart, .int .i64 t.start] 27 (0, 0))) : tbS E t v w :=
  ⟨cell_of_cells hb 0, cell_of_cells hb 1, cell_of_cells hb 2, cell_of_cells hb 3, cell_of_cells hb 4, cell_of_cells hb 5, cell_of_cells hb 6⟩
theorem tbS.keep {E : Nat} {t : Tm} {v : Value} {w w' : World} (h : tbS E t v w) (hk : Keeps (fun _ => False) w w') : tbS E t v w' := by
  obtain ⟨h0, h1, h2, h3, h4, h5, h6⟩ := h
  exact ⟨(hk.cell (cell_lt h0) (by simp)).trans h0, (hk.cell (cell_lt h1) (by simp)).trans h1, (hk.cell (cell_lt h2) (by simp)).trans h2, (hk.cell (cell_lt h3) (by simp)).trans h3, (hk.cell (cell_lt h4) (by simp)).trans h4, (hk.cell (cell_lt h5) (by simp)).trans h5, (hk.cell (cell_lt h6) (by simp)).trans h6⟩
set_option maxRecDepth 100000 in
set_option maxHeartbeats 1600000 in
theorem rateRight_any (t : Tm) (adt : Option Addr) (ct : Nat) (L : List Ev) (ad : Option Addr) (cap : Nat) (tr : Int) (w : World) (htr : Reads w 2 (.slice adt t.trs.length ct) t.trs.length (t.trs.flatMap Tn.cells)) (hr : Reads w 5 (.slice ad L.length cap) L.length (L.flatMap Ev.cells)) (hl : L.length ≤ 1000000) (htl : t.trs.length ≤ 1000000) :
    Calls Try.prog 51 #[t.val (.slice adt t.trs.length ct), .slice ad L.length cap, .int .i64 tr] w fun e w' => e = .returned (.int .i64 (trErr t L tr)) ∧ Keeps (fun _ => False) w w' := by
  have htm := fun W (hW : Keeps (fun _ => False) w W) => tmRight_any t adt ct W (htr.keeps hW (by simp)) htl
  have hev := fun x W (hW : Keeps (fun _ => False) w W) => evRight_any t x adt ct W (htr.keeps hW (by simp)) htl
  have htb : ∀ W, Keeps (fun _ => False) (w.alloc (.cells #[.int .i64 t.limit, .slice adt t.trs.length ct, .int .i64 t.cyc, .int .i64 t.due, .int .i64 t.minFixed, .int .i64 t.minPart, .int .i64 t.start] 27)) W → tbS w.heap.size t (.slice adt t.trs.length ct) W := fun W hW => tbS.of (box_old (heap_alloc_new w _) hW (by simp))
  obtain ⟨z, hz⟩ : ∃ z, trErr t L tr = z := ⟨_, rfl⟩
  have hz' := hz
  unfold trErr rightErr at hz'
  obtain ⟨y, hy⟩ : ∃ y, t.err = y := ⟨_, rfl⟩
  obtain ⟨nt, hnt⟩ : ∃ n, t.trs.length = n := ⟨_, rfl⟩
  obtain ⟨n, hn⟩ : ∃ n, L.length = n := ⟨_, rfl⟩
  rw [hz]
  rw [hnt] at htm hev htb htl htr hz' ⊢
  rw [hn] at hr hl ⊢
  rw [hy] at htm hz'
  simp only [Tm.val] at htm hev ⊢
  by_cases hy0 : y = 0
  · subst hy0
    rw [if_pos rfl] at hz'
    have Htm := Lib.hid htm; clear htm; have Hev := Lib.hid hev; clear hev; have Htb := Lib.hid htb; clear htb; have Htr := Lib.hid htr; clear htr; have Hr := Lib.hid hr; clear hr; have Hz := Lib.hid hz; clear hz; have Hz' := Lib.hid hz'; clear hz'; have Hy := Lib.hid hy; clear hy; have Hnt := Lib.hid hnt; clear hnt; have Hn := Lib.hid hn; clear hn
    go_enter Try.func51, Try.ntmps51
    go_wp2_with (go_at_call 55; (refine (Htm.out _ (Keeps.alloc _ _)).mono ?_); rintro e w1 ⟨rfl, hk1⟩; have Hk1 := Lib.hid hk1; clear hk1; refine haltR ?_)
    refine Lib.hid ?_
    obtain ⟨b0, b1, b2, b3, b4, b5, b6⟩ := Htb.out _ Hk1.out
    have bbl := cell_lt b0
    go_wp2
    go_loopw [18] (fun x wx => ∃ i : Nat, x = .int .i64 (i : Nat) ∧ i ≤ n ∧ (∀ j y, j < i → L[j]? = some y → evErr t y = 0) ∧ Keeps (fun _ => False) w1 wx) (fun x _ => n - (intOf x).toNat)
    case atStart => exact ⟨0, rfl, Nat.zero_le _, fun j y h => absurd h (Nat.not_lt_zero _), Keeps.refl _ _⟩
    case round =>
      obtain ⟨i, rfl, hin, hall, hk⟩ := hrel
      have hkw := (Keeps.alloc (S := fun _ => False) w (.cells #[.int .i64 t.limit, .slice adt nt ct, .int .i64 t.cyc, .int .i64 t.due, .int .i64 t.minFixed, .int .i64 t.minPart, .int .i64 t.start] 27)).nt (Hk1.out.nt hk)
      clear b0 b1 b2 b3 b4 b5 b6 bbl
      obtain ⟨b0, b1, b2, b3, b4, b5, b6⟩ := Htb.out _ (Hk1.out.nt hk)
      have bbl := cell_lt b0
      by_cases hlt : i < n
      · have hltI : (i : Int) < (n : Int) := by omega
        obtain ⟨x, hx⟩ := get_some (L := L) (k := i) (by rw [Hn.out]; exact hlt)
        obtain ⟨g, o, c', he, hc⟩ := (Hr.out.keeps hkw (by simp)).elem Ev.cells_length hx (by decide)
        simp only [Value.slice.injEq, true_and] at he
        obtain ⟨rfl, rfl⟩ := he
        obtain ⟨q, hq⟩ : ∃ q, evErr t x = q := ⟨_, rfl⟩
        have hcall := Hev.out x
        rw [hq] at hcall
        obtain ⟨xk, xd, xt, xa, xf⟩ := x
        simp only [Ev.agg] at hcall
        have x0 : wr.cell? ⟨g, o + i * 5, none⟩ = some (.int .i64 xk) := hc 0 (by decide)
        have x1 : wr.cell? ⟨g, o + i * 5 + 1, none⟩ = some (.int .i64 xd) := hc 1 (by decide)
        have x2 : wr.cell? ⟨g, o + i * 5 + 2, none⟩ = some (.int .i64 xt) := hc 2 (by decide)
        have x3 : wr.cell? ⟨g, o + i * 5 + 3, none⟩ = some (.int .i64 xa) := hc 3 (by decide)
        have x4 : wr.cell? ⟨g, o + i * 5 + 4, none⟩ = some (.int .i64 xf) := hc 4 (by decide)
        have hgl := cell_lt x0
        clear hc
        by_cases hq0 : q = 0
        · subst hq0
          have hall2 : ∀ j y, j < i + 1 → L[j]? = some y → evErr t y = 0 := fun j y hj hy => by
            rcases Nat.lt_or_ge j i with h | h
            · exact hall j y h hy
            · obtain rfl : j = i := by omega
              rw [hx] at hy; cases hy; exact hq
          have Hall := Lib.hid hall; clear hall; have Hall2 := Lib.hid hall2; clear hall2; have Hk := Lib.hid hk; clear hk; have Hkw := Lib.hid hkw; clear hkw; have Hx := Lib.hid hx; clear hx; have Hq := Lib.hid hq; clear hq; have Hcall := Lib.hid hcall; clear hcall
          go_wp2_with (go_at_call 36; (refine (Hcall.out _ (Hkw.out.nt (Keeps.alloc _ _))).mono ?_); rintro e w2 ⟨rfl, hk2⟩; have Hk2 := Lib.hid (Hk.out.nt ((Keeps.alloc _ _).nt hk2)); clear hk2; refine haltR ?_)
          refine Lib.hid ?_
          go_wp2
          go_roundw
          case rel => exact ⟨i + 1, by go_num, by omega, Hall2.out, Hk2.out⟩
          case measure => simp [intOf]; omega
        · have he := evsErr_at hall hx (by rw [hq]; exact hq0)
          have hqI : (q != 0) = true := by simp [hq0]
          rw [hq] at he
          have Hall := Lib.hid hall; clear hall; have Hk := Lib.hid hk; clear hk; have Hkw := Lib.hid hkw; clear hkw; have Hx := Lib.hid hx; clear hx; have Hq := Lib.hid hq; clear hq; have Hcall := Lib.hid hcall; clear hcall; have He := Lib.hid he; clear he
          go_wp2_with (go_at_call 36; (refine (Hcall.out _ (Hkw.out.nt (Keeps.alloc _ _))).mono ?_); rintro e w2 ⟨rfl, hk2⟩; have Hk2 := Lib.hid (Hkw.out.nt ((Keeps.alloc _ _).nt hk2)); clear hk2; refine haltR ?_)
          refine Lib.hid ?_
          go_wp2
          go_ret
          exact ⟨by have h := Hz'.out; rw [He.out, if_neg hq0] at h; subst h; rfl, Hk2.out⟩
      · obtain rfl : i = n := by omega
        have he := evsErr_all (t := t) (L := L) fun x hx => by
          obtain ⟨j, hj⟩ := List.getElem?_of_mem hx
          exact hall j x (by rw [← Hn.out]; exact lt_of_get hj) hj
        have h := Hz'.out
        rw [he, if_pos rfl] at h
        by_cases h1 : tr < 1
        · rw [if_pos (.inl h1)] at h
          subst h
          have Hall := Lib.hid hall; clear hall; have Hk := Lib.hid hk; clear hk; have Hkw := Lib.hid hkw; clear hkw; have He := Lib.hid he; clear he
          go_wp2
          go_ret
          exact ⟨rfl, Hkw.out⟩
        · by_cases h2 : (nt : Int) < tr
          · rw [if_pos (.inr h2)] at h
            subst h
            have Hall := Lib.hid hall; clear hall; have Hk := Lib.hid hk; clear hk; have Hkw := Lib.hid hkw; clear hkw; have He := Lib.hid he; clear he
            go_wp2
            go_ret
            exact ⟨rfl, Hkw.out⟩
          · rw [if_neg (by omega)] at h
            subst h
            have Hall := Lib.hid hall; clear hall; have Hk := Lib.hid hk; clear hk; have Hkw := Lib.hid hkw; clear hkw; have He := Lib.hid he; clear he
            go_wp2
            go_ret
            exact ⟨rfl, Hkw.out⟩
  · rw [if_neg hy0, if_neg (by decide)] at hz'
    have hy6 := Tm.err_or t
    rw [hy] at hy6
    obtain rfl : y = 6 := hy6.resolve_left hy0
    subst hz'
    have Htm := Lib.hid htm; clear htm; have Hev := Lib.hid hev; clear hev; have Htb := Lib.hid htb; clear htb; have Htr := Lib.hid htr; clear htr; have Hr := Lib.hid hr; clear hr; have Hz := Lib.hid hz; clear hz; have Hy := Lib.hid hy; clear hy; have Hnt := Lib.hid hnt; clear hnt; have Hn := Lib.hid hn; clear hn
    go_enter Try.func51, Try.ntmps51
    go_wp2_with (go_at_call 55; (refine (Htm.out _ (Keeps.alloc _ _)).mono ?_); rintro e w1 ⟨rfl, hk1⟩; have Hk1 := Lib.hid hk1; clear hk1)
    go_ret
    exact ⟨rfl, (Keeps.alloc w _).nt Hk1.out⟩
theorem Tm.ok_start {t : Tm} (h : t.err = 0) : -135140 ≤ t.start ∧ t.start ≤ 2922896 := by
  unfold Tm.err at h
  split at h
  · rename_i hk
    simp only [Tm.okB, Bool.and_eq_true, inB, decide_eq_true_eq] at hk
    exact hk.2.2
  · cases h
theorem trErr_ok {t : Tm} {L : List Ev} {tr : Int} (h : trErr t L tr = 0) : t.err = 0 ∧ (∀ x ∈ L, evErr t x = 0) ∧ 1 ≤ tr ∧ tr ≤ t.trs.length := by
  unfold trErr at h
  by_cases h0 : rightErr t L = 0
  · rw [if_pos h0] at h
    unfold rightErr at h0
    by_cases h1 : t.err = 0
    · rw [if_pos h1] at h0
      by_cases h2 : tr < 1 ∨ (t.trs.length : Int) < tr
      · rw [if_pos h2] at h; cases h
      · exact ⟨h1, evsErr_ok h0, by omega, by omega⟩
    · rw [if_neg h1] at h0; cases h0
  · rw [if_neg h0] at h; exact absurd h h0
theorem dayOk_of {t : Tm} {e : Ev} (h : evErr t e = 0) : dayOk e := by
  have h1 := evErr_day h
  have h2 := Tm.ok_start (evErr_tm h)
  unfold dayOk; omega
set_option maxRecDepth 100000 in
set_option maxHeartbeats 3200000 in
theorem rateDays_any (t : Tm) (adt : Option Addr) (ct : Nat) (L : List Ev) (ad : Option Addr) (cap : Nat) (tr fr te : Int) (w : World) (htr : Reads w 2 (.slice adt t.trs.length ct) t.trs.length (t.trs.flatMap Tn.cells)) (hr : Reads w 5 (.slice ad L.length cap) L.length (L.flatMap Ev.cells)) (hl : L.length ≤ 1000000) (htl : t.trs.length ≤ 1000000) :
    Calls Try.prog 31 #[t.val (.slice adt t.trs.length ct), .slice ad L.length cap, .int .i64 tr, .agg #[.int .i64 fr, .int .i64 te]] w fun e w' => ∃ v', e = .returned (.tuple #[v', .int .i64 (daysErr t L tr fr te)]) ∧ w'.ownsRow 0 2 1 v' (daysOf t L tr fr te).length ((daysOf t L tr fr te).flatMap i64c) ∧ Fresh w w' v' := by
  have hri := fun W (hW : Keeps (fun _ => False) w W) => rateRight_any t adt ct L ad cap tr W (htr.keeps hW (by simp)) (hr.keeps hW (by simp)) hl htl
  have htb : ∀ W, Keeps (fun _ => False) (w.alloc (.cells #[.int .i64 t.limit, .slice adt t.trs.length ct, .int .i64 t.cyc, .int .i64 t.due, .int .i64 t.minFixed, .int .i64 t.minPart, .int .i64 t.start] 27)) W → tbS w.heap.size t (.slice adt t.trs.length ct) W := fun W hW => tbS.of (box_old (heap_alloc_new w _) hW (by simp))
  have hsp : ∀ W, Keeps (fun _ => False) ((w.alloc (.cells #[.int .i64 t.limit, .slice adt t.trs.length ct, .int .i64 t.cyc, .int .i64 t.due, .int .i64 t.minFixed, .int .i64 t.minPart, .int .i64 t.start] 27)).alloc (.cells #[.int .i64 fr, .int .i64 te] 51)) W → W.heap[w.heap.size + 1]? = some (.cells #[.int .i64 fr, .int .i64 te] 51 (0, 0)) := fun W hW => box_old (halloc_at _ _ (by simp)) hW (by simp)
  have hnil : ∀ W, Keeps (fun _ => False) w W → daysErr t L tr fr te ≠ 0 → W.ownsRow 0 2 1 (.slice none 0 0) (daysOf t L tr fr te).length ((daysOf t L tr fr te).flatMap i64c) ∧ Fresh w W (.slice none 0 0) := fun W hW hne => by
    unfold daysOf
    rw [if_neg hne]
    exact ⟨World.ownsRow_nil _ _ _ _, hW, by simp [Value.ownBlock]⟩
  obtain ⟨z, hz⟩ : ∃ z, daysErr t L tr fr te = z := ⟨_, rfl⟩
  obtain ⟨y, hy⟩ : ∃ y, trErr t L tr = y := ⟨_, rfl⟩
  obtain ⟨nt, hnt⟩ : ∃ n, t.trs.length = n := ⟨_, rfl⟩
  obtain ⟨n, hn⟩ : ∃ n, L.length = n := ⟨_, rfl⟩
  have hz' := hz
  unfold daysErr at hz'
  rw [hy] at hri hz'
  rw [hz] at hnil ⊢
  rw [hnt] at htr hri htb hsp htl ⊢
  rw [hn] at hr hri hl ⊢
  simp only [Tm.val] at hri ⊢
  by_cases hy0 : y = 0
  · subst hy0
    rw [if_pos rfl] at hz'
    have hdays := fun W (hW : Keeps (fun _ => False) w W) hok hst h1 h2 h3 h4 h5 h6 => rateDays0_any t adt ct L ad cap tr fr te W (by rw [hnt]; exact htr.keeps hW (by simp)) (by rw [hn]; exact hr.keeps hW (by simp)) (by rw [hn]; exact hl) (by rw [hnt]; exact htl) hok hst h1 h2 h3 h4 h5 h6
    rw [hn, hnt] at hdays
    simp only [Tm.val] at hdays
    have Hri := Lib.hid hri; clear hri; have Htb := Lib.hid htb; clear htb; have Hsp := Lib.hid hsp; clear hsp; have Htr := Lib.hid htr; clear htr; have Hr := Lib.hid hr; clear hr; have Hz := Lib.hid hz; clear hz; have Hz' := Lib.hid hz'; clear hz'; have Hy := Lib.hid hy; clear hy; have Hnt := Lib.hid hnt; clear hnt; have Hn := Lib.hid hn; clear hn; have Hdays := Lib.hid hdays; clear hdays; have Hnil := Lib.hid hnil; clear hnil
    go_enter Try.func31, Try.ntmps31
    go_wp2_with (go_at_call 51; (refine (Hri.out _ ((Keeps.alloc _ _).nt (Keeps.alloc _ _))).mono ?_); rintro e w1 ⟨rfl, hk1⟩; have Hk1 := Lib.hid hk1; clear hk1; refine haltR ?_)
    refine Lib.hid ?_
    have hkw := (Keeps.alloc (S := fun _ => False) w (.cells #[.int .i64 t.limit, .slice adt nt ct, .int .i64 t.cyc, .int .i64 t.due, .int .i64 t.minFixed, .int .i64 t.minPart, .int .i64 t.start] 27)).nt ((Keeps.alloc _ (.cells #[.int .i64 fr, .int .i64 te] 51)).nt Hk1.out)
    obtain ⟨b0, b1, b2, b3, b4, b5, b6⟩ := Htb.out _ ((Keeps.alloc _ _).nt Hk1.out)
    have bbl := cell_lt b0
    have sp := Hsp.out _ Hk1.out
    have s0 := cell_of_cells sp 0
    have s1 := cell_of_cells sp 1
    have sbl := lt_of_block sp
    clear sp
    have Hkw := Lib.hid hkw; clear hkw
    obtain ⟨o1, o2, o3, o4⟩ := trErr_ok Hy.out
    have o5 := Tm.ok_start o1
    by_cases hc : fr < t.start ∨ 2932896 < fr ∨ te < t.start ∨ 2932896 < te
    · have h := Hz'.out
      rw [if_pos hc] at h
      subst h
      have O1 := Lib.hid o1; clear o1; have O2 := Lib.hid o2; clear o2; have O3 := Lib.hid o3; clear o3; have O4 := Lib.hid o4; clear o4; have O5 := Lib.hid o5; clear o5
      go_wp2_with fail
      all_goals first
        | (exfalso; omega)
        | exact bodyPost_ret (v := .tuple #[.slice none 0 0, .int .i64 10]) (by simp [results, Try.results31, go_sem]) rfl ⟨_, rfl, Hnil.out _ Hkw.out (by decide)⟩
    · have hw : IntKind.i64.wrap (te - fr) = te - fr := IntWalk.i64_in _ ⟨by omega, by omega⟩
      by_cases hc2 : te < fr ∨ 40000 ≤ te - fr
      · have h := Hz'.out
        rw [if_neg hc, if_pos hc2] at h
        subst h
        have r1 : ¬ fr < t.start := by omega
        have r2 : ¬ te < t.start := by omega
        have r3 : ¬ 2932896 < fr := by omega
        have r4 : ¬ 2932896 < te := by omega
        clear hc
        have O1 := Lib.hid o1; clear o1; have O2 := Lib.hid o2; clear o2; have O3 := Lib.hid o3; clear o3; have O4 := Lib.hid o4; clear o4; have O5 := Lib.hid o5; clear o5
        go_wp2_with fail
        all_goals first
          | (exfalso; omega)
          | exact bodyPost_ret (v := .tuple #[.slice none 0 0, .int .i64 1]) (by simp [results, Try.results31, go_sem]) rfl ⟨_, rfl, Hnil.out _ Hkw.out (by decide)⟩
      · have h := Hz'.out
        rw [if_neg hc, if_neg hc2] at h
        subst h
        have r1 : ¬ fr < t.start := by omega
        have r2 : ¬ te < t.start := by omega
        have r3 : ¬ 2932896 < fr := by omega
        have r4 : ¬ 2932896 < te := by omega
        have r5 : ¬ te < fr := by omega
        have r6 : ¬ 40000 ≤ te - fr := by omega
        have hcall := Hdays.out w1 Hkw.out (fun x hx => dayOk_of (o2 x hx)) (fun x hx => (evErr_day (o2 x hx)).1) o3 (by rw [← Hnt.out]; exact o4) (by omega) (by omega) (by omega) (by omega)
        clear hc hc2
        have O1 := Lib.hid o1; clear o1; have O2 := Lib.hid o2; clear o2; have O3 := Lib.hid o3; clear o3; have O4 := Lib.hid o4; clear o4; have O5 := Lib.hid o5; clear o5; have Hcall := Lib.hid hcall; clear hcall
        go_wp2_with fail
        all_goals first
          | (exfalso; omega)
          | skip
        all_goals (
          refine Hcall.out.mono ?_
          rintro e w2 ⟨v2, rfl, hr2, hf2⟩
          have hpost : w2.ownsRow 0 2 1 v2 (daysOf t L tr fr te).length ((daysOf t L tr fr te).flatMap i64c) ∧ Fresh w w2 v2 := by
            unfold daysOf
            rw [if_pos Hz.out, daysL_length]
            exact ⟨hr2, Hkw.out.nt hf2.1, fun g hg => by have := hf2.2 g hg; have := Hkw.out.size; omega⟩
          obtain ⟨ad2, c2, hv2, _, _⟩ := ownsRow_shape hr2
          subst hv2
          have Hpost := Lib.hid hpost; clear hpost
          clear hr2 hf2
          go_wp2_with fail
          exact bodyPost_ret (v := .tuple #[.slice ad2 (te - fr + 1).toNat c2, .int .i64 0]) (by simp [results, Try.results31, go_sem]) rfl ⟨_, rfl, Hpost.out⟩)
  · rw [if_neg hy0] at hz'
    subst hz'
    have hyI : (y != 0) = true := by simp [hy0]
    have Hri := Lib.hid hri; clear hri; have Htb := Lib.hid htb; clear htb; have Hsp := Lib.hid hsp; clear hsp; have Htr := Lib.hid htr; clear htr; have Hr := Lib.hid hr; clear hr; have Hz := Lib.hid hz; clear hz; have Hy := Lib.hid hy; clear hy; have Hnt := Lib.hid hnt; clear hnt; have Hn := Lib.hid hn; clear hn; have Hnil := Lib.hid hnil; clear hnil
    go_enter Try.func31, Try.ntmps31
    go_wp2_with (go_at_call 51; (refine (Hri.out _ ((Keeps.alloc _ _).nt (Keeps.alloc _ _))).mono ?_); rintro e w1 ⟨rfl, hk1⟩; have Hk1 := Lib.hid (((Keeps.alloc w _).nt (Keeps.alloc _ _)).nt hk1); clear hk1; refine haltR ?_)
    refine Lib.hid ?_
    go_wp2
    exact bodyPost_ret (v := .tuple #[.slice none 0 0, .int .i64 y]) (by simp [results, Try.results31, go_sem]) rfl ⟨_, rfl, Hnil.out _ Hk1.out hy0⟩
end Go.Proofs.Ytelhlbplbkglkaa
