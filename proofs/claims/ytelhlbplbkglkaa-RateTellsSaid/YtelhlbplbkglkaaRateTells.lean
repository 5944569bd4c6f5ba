/- RateTells: the rate of any day, and of all days of a span, of any terms and events; what is handed in stays. -/
import Derived.Test.YtelhlbplbkglkaaRateLaw
import Derived.Test.YtelhlbplbkglkaaKeptEv
import Derived.Test.YtelhlbplbkglkaaOpenSpan
import Derived.Test.YtelhlbplbkglkaaOpenEv
namespace Go.Proofs.Ytelhlbplbkglkaa
open Go.RowKit
set_option maxRecDepth 100000 in
set_option maxHeartbeats 3200000 in
theorem rateTells_walk (w : World) (t : Tm) (adt : Option Addr) (ct : Nat) (htr : Reads w 2 (.slice adt t.trs.length ct) t.trs.length (t.trs.flatMap Tn.cells)) (htm : t.trs.length ≤ maxLen)
    (ad : Option Addr) (cap : Nat) (L : List Ev) (hr : Reads w 5 (.slice ad L.length cap) L.length (L.flatMap Ev.cells)) (_ : ∀ a ∈ L, a.wf) (hm : L.length ≤ maxLen) (tr : Int) (_ : (Lit.int .i64 tr).wf = true) (d : Int) (_ : (Lit.int .i64 d).wf = true) (s : Span) (_ : s.wf) :
    Calls Try.prog 7 #[t.val (.slice adt t.trs.length ct), .slice ad L.length cap, .int .i64 tr, .int .i64 d, .agg s.cells.toArray] w fun e w' => e = .returned (.bool true) ∧ Below w.heap.size w w' := by
  obtain ⟨fr, te0⟩ := s
  obtain ⟨n, hn⟩ : ∃ n, L.length = n := ⟨_, rfl⟩
  obtain ⟨nt, hnt⟩ : ∃ n, t.trs.length = n := ⟨_, rfl⟩
  have htm' : nt ≤ 9223372036854775807 := by unfold maxLen at htm; omega
  have hm' : n ≤ 9223372036854775807 := by unfold maxLen at hm; omega
  simp only [Span.cells]
  by_cases hbig : 20 < nt ∨ 60 < n
  · rw [hnt] at htr ⊢
    rw [hn] at hr ⊢
    simp only [Tm.val]
    have Hr := Lib.hid hr; clear hr; have Hn := Lib.hid hn; clear hn; have Hm := Lib.hid hm; clear hm; have Htr := Lib.hid htr; clear htr; have Htm := Lib.hid htm; clear htm; have Hnt := Lib.hid hnt; clear hnt
    go_enter Try.func7, Try.ntmps7
    go_wp2_with (go_at_call 28; (with_reducible refine (awake08_any _).mono ?_); rintro e w4 ⟨rfl, hk4⟩; have Hk4 := Lib.hid hk4; clear hk4)
    all_goals first
      | (exfalso; omega)
      | (go_ret; exact ⟨rfl, (((Keeps.alloc w _).nt (Keeps.alloc _ _)).nt Hk4.out).below (by simp) (Nat.le_refl _)⟩)
  · have g1 : ¬ (20 : Int) < (nt : Int) := by omega
    have g2 : ¬ (60 : Int) < (n : Int) := by omega
    have hown := fun W (hW : Keeps (fun _ => False) w W) => ownEv_any W ad cap L ⟨71, 0, 0, 0, 0⟩ (hr.keeps hW (by simp)) (by omega)
    have hron := fun W (hW : Keeps (fun _ => False) w W) => rrateOn_any t adt ct L ad cap tr d W (htr.keeps hW (by simp)) (hr.keeps hW (by simp)) (by omega) (by omega)
    have hrdy := fun te W (hW : Keeps (fun _ => False) w W) => rrateDays_any t adt ct L ad cap tr fr te W (htr.keeps hW (by simp)) (hr.keeps hW (by simp)) (by omega) (by omega)
    have hon := fun W ad2 c2 (hW : Keeps (fun _ => False) w W) hr2 => rateOn_any t adt ct L ad2 c2 tr d W (htr.keeps hW (by simp)) hr2 (by omega) (by omega)
    have hdy := fun te W ad2 c2 (hW : Keeps (fun _ => False) w W) hr2 => rateDays_any t adt ct L ad2 c2 tr fr te W (htr.keeps hW (by simp)) hr2 (by omega) (by omega)
    have htb : ∀ W, Keeps (fun _ => False) (w.alloc (.cells #[.int .i64 t.limit, .slice adt t.trs.length ct, .int .i64 t.cyc, .int .i64 t.due, .int .i64 t.minFixed, .int .i64 t.minPart, .int .i64 t.start] 27)) W → tbS w.heap.size t (.slice adt t.trs.length ct) W := fun W hW => tbS.of (box_old (heap_alloc_new w _) hW (by simp))
    have hlen := fun te => Nat.le_trans (Nat.le_of_eq (rfl : (daysOf t L tr fr te).length = (daysOf t L tr fr te).length)) (Nat.le_refl _)
    rw [hnt] at htr hron hrdy hon hdy htb ⊢
    rw [hn] at hr hown hron hrdy hon hdy ⊢
    simp only [Tm.val, Ev.agg] at hown hron hrdy hon hdy ⊢
    clear hbig hlen
    have Hr := Lib.hid hr; clear hr; have Hn := Lib.hid hn; clear hn; have Hm := Lib.hid hm; clear hm; have Htr := Lib.hid htr; clear htr; have Htm := Lib.hid htm; clear htm; have Hnt := Lib.hid hnt; clear hnt; have Hown := Lib.hid hown; clear hown; have Hron := Lib.hid hron; clear hron; have Hrdy := Lib.hid hrdy; clear hrdy; have Hon := Lib.hid hon; clear hon; have Hdy := Lib.hid hdy; clear hdy; have Htb := Lib.hid htb; clear htb
    obtain ⟨q, hq⟩ : ∃ q, IntKind.i64.wrap (fr + 300) = q := ⟨_, rfl⟩
    by_cases hcnd : q < te0 ∧ te0 ≤ 2932896 ∧ -135140 ≤ fr
    · obtain ⟨k1, k2, k3⟩ := hcnd
      go_enter Try.func7, Try.ntmps7
      go_wp2_with fail
      obtain ⟨W0, hW0⟩ : ∃ x, x = ((w.alloc (.cells #[.int .i64 t.limit, .slice adt nt ct, .int .i64 t.cyc, .int .i64 t.due, .int .i64 t.minFixed, .int .i64 t.minPart, .int .i64 t.start] 27)).alloc (.cells #[.int .i64 fr, .int .i64 q] 51)) := ⟨_, rfl⟩
      have hs : ((w.alloc (.cells #[.int .i64 t.limit, .slice adt nt ct, .int .i64 t.cyc, .int .i64 t.due, .int .i64 t.minFixed, .int .i64 t.minPart, .int .i64 t.start] 27)).alloc (.cells #[.int .i64 fr, .int .i64 q] 51)).heap[w.heap.size + 1]? = some (.cells #[.int .i64 fr, .int .i64 q] 51 (0, 0)) := halloc_at _ _ (by simp)
      have hk := (Keeps.alloc w _).nt (Keeps.alloc (w.alloc (.cells #[.int .i64 t.limit, .slice adt nt ct, .int .i64 t.cyc, .int .i64 t.due, .int .i64 t.minFixed, .int .i64 t.minPart, .int .i64 t.start] 27)) (.cells #[.int .i64 fr, .int .i64 q] 51))
      have ht := Htb.out _ (Keeps.alloc _ (.cells #[.int .i64 fr, .int .i64 q] 51))
      rw [← hW0] at hs hk ht ⊢
      obtain ⟨te, hte⟩ : ∃ x, x = q := ⟨_, rfl⟩
      rw [← hte] at hs
      have HW0 := Lib.hid hW0; clear hW0; have Hte := Lib.hid hte; clear hte
      have hc : ∀ W, Keeps (fun _ => False) W0 W → tbS w.heap.size t (.slice adt nt ct) W ∧ W.heap[w.heap.size + 1]? = some (.cells #[.int .i64 fr, .int .i64 te] 51 (0, 0)) := fun W hW => ⟨ht.keep hW, box_old hs hW (by simp)⟩
      have hrdy := Hrdy.out te
      have hdy := Hdy.out te
      obtain ⟨v1, hv1⟩ : ∃ v, onVal t L tr d = v := ⟨_, rfl⟩
      obtain ⟨z1, hz1⟩ : ∃ v, daysErr t L tr d d = v := ⟨_, rfl⟩
      obtain ⟨z2, hz2⟩ : ∃ v, daysErr t L tr fr te = v := ⟨_, rfl⟩
      obtain ⟨D, hD⟩ : ∃ v, daysOf t L tr fr te = v := ⟨_, rfl⟩
      have hon := Hon.out
      have hron := Hron.out
      have hDl : D.length ≤ 40001 := by
        rw [← hD]
        unfold daysOf
        split
        · rename_i h0
          rw [daysL_length]
          have h := h0
          unfold daysErr at h
          split at h
          · split at h
            · cases h
            · split at h
              · cases h
              · omega
          · rename_i h1; exact absurd h h1
        · simp
      rw [hz2, hD] at hrdy hdy
      rw [hv1, hz1] at hon hron
      obtain ⟨nD, hnD⟩ : ∃ n, D.length = n := ⟨_, rfl⟩
      rw [hnD] at hrdy hdy
      clear Hon Hron Hrdy Hdy Htb
      have Hs := Lib.hid hs; clear hs; have Hk := Lib.hid hk; clear hk; have Ht := Lib.hid ht; clear ht; have Hc := Lib.hid hc; clear hc; have Hrdy := Lib.hid hrdy; clear hrdy; have Hdy := Lib.hid hdy; clear hdy; have Hv1 := Lib.hid hv1; clear hv1; have Hz1 := Lib.hid hz1; clear hz1; have Hz2 := Lib.hid hz2; clear hz2; have HD := Lib.hid hD; clear hD; have Hon := Lib.hid hon; clear hon; have Hron := Lib.hid hron; clear hron; have HDl := Lib.hid hDl; clear hDl; have HnD := Lib.hid hnD; clear hnD
      refine (Hown.out _ Hk.out).mono ?_
      rintro e w1 ⟨rfl, ho1, hk1⟩
      obtain ⟨B, hB⟩ : ∃ B, B = W0.heap.size + 1 := ⟨_, rfl⟩
      rw [← hB] at ho1 ⊢
      have hin : Reads w1 5 (.slice (some ⟨B, 0, none⟩) n (n + 3)) n (L.flatMap Ev.cells) := by have := ho1.reads; rwa [Hn.out] at this
      have hx := Hc.out w1 hk1
      obtain ⟨hx1, hx2⟩ := hx
      obtain ⟨b0, b1, b2, b3, b4, b5, b6⟩ := hx1
      have bbl := cell_lt b0
      have sp := hx2
      have s0 := cell_of_cells sp 0
      have s1 := cell_of_cells sp 1
      have sbl := lt_of_block sp
      clear sp
      have Ho1 := Lib.hid ho1; clear ho1; have Hk1 := Lib.hid hk1; clear hk1; have HB := Lib.hid hB; clear hB; have Hin := Lib.hid hin; clear hin
      go_wp2_with fail
      refine (Hon.out _ _ _ (Hk.out.nt Hk1.out) Hin.out).mono ?_
      rintro e w2 ⟨rfl, hk2⟩
      have Hk2 := Lib.hid (Hk1.out.nt hk2)
      have Hin2 := Lib.hid (Hin.out.keeps hk2 (by simp))
      have Ho2 := Lib.hid (Ho1.out.keep hk2)
      clear hk2 Hin Ho1
      clear b0 b1 b2 b3 b4 b5 b6 bbl s0 s1 sbl
      have hx := Hc.out w2 Hk2.out
      obtain ⟨hx1, hx2⟩ := hx
      obtain ⟨b0, b1, b2, b3, b4, b5, b6⟩ := hx1
      have bbl := cell_lt b0
      have sp := hx2
      have s0 := cell_of_cells sp 0
      have s1 := cell_of_cells sp 1
      have sbl := lt_of_block sp
      clear sp
      go_wp2_with fail
      refine (Hron.out _ (Hk.out.nt Hk2.out)).mono ?_
      rintro e w3 ⟨rfl, hk3⟩
      have Hk3 := Lib.hid (Hk2.out.nt hk3)
      have Hin3 := Lib.hid (Hin2.out.keeps hk3 (by simp))
      have Ho3 := Lib.hid (Ho2.out.keep hk3)
      clear hk3 Hin2 Ho2
      clear b0 b1 b2 b3 b4 b5 b6 bbl s0 s1 sbl
      have hx := Hc.out w3 Hk3.out
      obtain ⟨hx1, hx2⟩ := hx
      obtain ⟨b0, b1, b2, b3, b4, b5, b6⟩ := hx1
      have bbl := cell_lt b0
      have sp := hx2
      have s0 := cell_of_cells sp 0
      have s1 := cell_of_cells sp 1
      have sbl := lt_of_block sp
      clear sp
      go_wp2_with fail
      refine (Hdy.out _ _ _ (Hk.out.nt Hk3.out) Hin3.out).mono ?_
      rintro e w4 ⟨v4, rfl, hr4, hf4⟩
      have Hk4 := Lib.hid (Hk3.out.nt hf4.1)
      have Ho4 := Lib.hid (Ho3.out.keep hf4.1)
      obtain ⟨ad4, c4, he4, _, _⟩ := ownsRow_shape hr4
      subst he4
      have Hr4 := Lib.hid (Reads.of_owns hr4)
      clear hr4 hf4 Hin3 Ho3
      clear b0 b1 b2 b3 b4 b5 b6 bbl s0 s1 sbl
      have hx := Hc.out w4 Hk4.out
      obtain ⟨hx1, hx2⟩ := hx
      obtain ⟨b0, b1, b2, b3, b4, b5, b6⟩ := hx1
      have bbl := cell_lt b0
      have sp := hx2
      have s0 := cell_of_cells sp 0
      have s1 := cell_of_cells sp 1
      have sbl := lt_of_block sp
      clear sp
      go_wp2_with fail
      refine (Hrdy.out _ (Hk.out.nt Hk4.out)).mono ?_
      rintro e w5 ⟨v5, rfl, hr5, hf5⟩
      have Hk5 := Lib.hid (Hk4.out.nt hf5.1)
      have Ho5 := Lib.hid (Ho4.out.keep hf5.1)
      have Hr45 := Lib.hid (Hr4.out.keeps hf5.1 (by simp))
      obtain ⟨ad5, c5, he5, _, _⟩ := ownsRow_shape hr5
      subst he5
      have Hr5 := Lib.hid (Reads.of_owns hr5)
      clear hr5 hf5 Ho4 Hr4
      clear b0 b1 b2 b3 b4 b5 b6 bbl s0 s1 sbl
      go_wp2_with fail
      refine (awake08_any _).mono ?_
      rintro e w6 ⟨rfl, hk6⟩
      have Hk6 := Lib.hid hk6
      clear hk6
      have hpl := fun W (hW : Keeps (fun _ => False) w5 W) => plainI64_same D (.slice ad4 nD c4) (.slice ad5 nD c5) W (by rw [HnD.out]; exact Hr45.out.keeps hW (by simp)) (by rw [HnD.out]; exact Hr5.out.keeps hW (by simp)) (by have := HDl.out; omega)
      have Hpl := Lib.hid hpl; clear hpl
      go_wp2_with fail
      refine (Hpl.out _ Hk6.out).mono ?_
      rintro e w7 ⟨rfl, hk7⟩
      have Hk7 := Lib.hid (Hk6.out.nt hk7)
      clear hk7
      have hkept := keptEv_any B ad cap L ⟨71, 0, 0, 0, 0⟩ w7 (Ho5.out.keep Hk7.out) (by rw [Hn.out]; exact Hr.out.keeps (Hk.out.nt (Hk5.out.nt Hk7.out)) (by simp)) (by rw [Hn.out]; omega)
      rw [Hn.out] at hkept
      simp only [Ev.agg] at hkept
      have Hkept := Lib.hid hkept; clear hkept
      go_wp2_with fail
      refine Hkept.out.mono ?_
      rintro e w8 ⟨rfl, hk8⟩
      have Hk8 := Lib.hid ((Hk.out.nt (Hk5.out.nt Hk7.out)).nt hk8)
      clear hk8
      go_wp2_with fail
      go_ret
      exact ⟨rfl, Hk8.out.below (by simp) (Nat.le_refl _)⟩
    · by_cases k1 : q < te0
      · by_cases k2 : te0 ≤ 2932896
        · have k3 : ¬ -135140 ≤ fr := by omega
          clear hcnd
          go_enter Try.func7, Try.ntmps7
          go_wp2_with fail
          obtain ⟨W0, hW0⟩ : ∃ x, x = ((w.alloc (.cells #[.int .i64 t.limit, .slice adt nt ct, .int .i64 t.cyc, .int .i64 t.due, .int .i64 t.minFixed, .int .i64 t.minPart, .int .i64 t.start] 27)).alloc (.cells #[.int .i64 fr, .int .i64 te0] 51)) := ⟨_, rfl⟩
          have hs : ((w.alloc (.cells #[.int .i64 t.limit, .slice adt nt ct, .int .i64 t.cyc, .int .i64 t.due, .int .i64 t.minFixed, .int .i64 t.minPart, .int .i64 t.start] 27)).alloc (.cells #[.int .i64 fr, .int .i64 te0] 51)).heap[w.heap.size + 1]? = some (.cells #[.int .i64 fr, .int .i64 te0] 51 (0, 0)) := halloc_at _ _ (by simp)
          have hk := (Keeps.alloc w _).nt (Keeps.alloc (w.alloc (.cells #[.int .i64 t.limit, .slice adt nt ct, .int .i64 t.cyc, .int .i64 t.due, .int .i64 t.minFixed, .int .i64 t.minPart, .int .i64 t.start] 27)) (.cells #[.int .i64 fr, .int .i64 te0] 51))
          have ht := Htb.out _ (Keeps.alloc _ (.cells #[.int .i64 fr, .int .i64 te0] 51))
          rw [← hW0] at hs hk ht ⊢
          obtain ⟨te, hte⟩ : ∃ x, x = te0 := ⟨_, rfl⟩
          rw [← hte] at hs
          have HW0 := Lib.hid hW0; clear hW0; have Hte := Lib.hid hte; clear hte
          have hc : ∀ W, Keeps (fun _ => False) W0 W → tbS w.heap.size t (.slice adt nt ct) W ∧ W.heap[w.heap.size + 1]? = some (.cells #[.int .i64 fr, .int .i64 te] 51 (0, 0)) := fun W hW => ⟨ht.keep hW, box_old hs hW (by simp)⟩
          have hrdy := Hrdy.out te
          have hdy := Hdy.out te
          obtain ⟨v1, hv1⟩ : ∃ v, onVal t L tr d = v := ⟨_, rfl⟩
          obtain ⟨z1, hz1⟩ : ∃ v, daysErr t L tr d d = v := ⟨_, rfl⟩
          obtain ⟨z2, hz2⟩ : ∃ v, daysErr t L tr fr te = v := ⟨_, rfl⟩
          obtain ⟨D, hD⟩ : ∃ v, daysOf t L tr fr te = v := ⟨_, rfl⟩
          have hon := Hon.out
          have hron := Hron.out
          have hDl : D.length ≤ 40001 := by
            rw [← hD]
            unfold daysOf
            split
            · rename_i h0
              rw [daysL_length]
              have h := h0
              unfold daysErr at h
              split at h
              · split at h
                · cases h
                · split at h
                  · cases h
                  · omega
              · rename_i h1; exact absurd h h1
            · simp
          rw [hz2, hD] at hrdy hdy
          rw [hv1, hz1] at hon hron
          obtain ⟨nD, hnD⟩ : ∃ n, D.length = n := ⟨_, rfl⟩
          rw [hnD] at hrdy hdy
          clear Hon Hron Hrdy Hdy Htb
          have Hs := Lib.hid hs; clear hs; have Hk := Lib.hid hk; clear hk; have Ht := Lib.hid ht; clear ht; have Hc := Lib.hid hc; clear hc; have Hrdy := Lib.hid hrdy; clear hrdy; have Hdy := Lib.hid hdy; clear hdy; have Hv1 := Lib.hid hv1; clear hv1; have Hz1 := Lib.hid hz1; clear hz1; have Hz2 := Lib.hid hz2; clear hz2; have HD := Lib.hid hD; clear hD; have Hon := Lib.hid hon; clear hon; have Hron := Lib.hid hron; clear hron; have HDl := Lib.hid hDl; clear hDl; have HnD := Lib.hid hnD; clear hnD
          refine (Hown.out _ Hk.out).mono ?_
          rintro e w1 ⟨rfl, ho1, hk1⟩
          obtain ⟨B, hB⟩ : ∃ B, B = W0.heap.size + 1 := ⟨_, rfl⟩
          rw [← hB] at ho1 ⊢
          have hin : Reads w1 5 (.slice (some ⟨B, 0, none⟩) n (n + 3)) n (L.flatMap Ev.cells) := by have := ho1.reads; rwa [Hn.out] at this
          have hx := Hc.out w1 hk1
          obtain ⟨hx1, hx2⟩ := hx
          obtain ⟨b0, b1, b2, b3, b4, b5, b6⟩ := hx1
          have bbl := cell_lt b0
          have sp := hx2
          have s0 := cell_of_cells sp 0
          have s1 := cell_of_cells sp 1
          have sbl := lt_of_block sp
          clear sp
          have Ho1 := Lib.hid ho1; clear ho1; have Hk1 := Lib.hid hk1; clear hk1; have HB := Lib.hid hB; clear hB; have Hin := Lib.hid hin; clear hin
          go_wp2_with fail
          refine (Hon.out _ _ _ (Hk.out.nt Hk1.out) Hin.out).mono ?_
          rintro e w2 ⟨rfl, hk2⟩
          have Hk2 := Lib.hid (Hk1.out.nt hk2)
          have Hin2 := Lib.hid (Hin.out.keeps hk2 (by simp))
          have Ho2 := Lib.hid (Ho1.out.keep hk2)
          clear hk2 Hin Ho1
          clear b0 b1 b2 b3 b4 b5 b6 bbl s0 s1 sbl
          have hx := Hc.out w2 Hk2.out
          obtain ⟨hx1, hx2⟩ := hx
          obtain ⟨b0, b1, b2, b3, b4, b5, b6⟩ := hx1
          have bbl := cell_lt b0
          have sp := hx2
          have s0 := cell_of_cells sp 0
          have s1 := cell_of_cells sp 1
          have sbl := lt_of_block sp
          clear sp
          go_wp2_with fail
          refine (Hron.out _ (Hk.out.nt Hk2.out)).mono ?_
          rintro e w3 ⟨rfl, hk3⟩
          have Hk3 := Lib.hid (Hk2.out.nt hk3)
          have Hin3 := Lib.hid (Hin2.out.keeps hk3 (by simp))
          have Ho3 := Lib.hid (Ho2.out.keep hk3)
          clear hk3 Hin2 Ho2
          clear b0 b1 b2 b3 b4 b5 b6 bbl s0 s1 sbl
          have hx := Hc.out w3 Hk3.out
          obtain ⟨hx1, hx2⟩ := hx
          obtain ⟨b0, b1, b2, b3, b4, b5, b6⟩ := hx1
          have bbl := cell_lt b0
          have sp := hx2
          have s0 := cell_of_cells sp 0
          have s1 := cell_of_cells sp 1
          have sbl := lt_of_block sp
          clear sp
          go_wp2_with fail
          refine (Hdy.out _ _ _ (Hk.out.nt Hk3.out) Hin3.out).mono ?_
          rintro e w4 ⟨v4, rfl, hr4, hf4⟩
          have Hk4 := Lib.hid (Hk3.out.nt hf4.1)
          have Ho4 := Lib.hid (Ho3.out.keep hf4.1)
          obtain ⟨ad4, c4, he4, _, _⟩ := ownsRow_shape hr4
          subst he4
          have Hr4 := Lib.hid (Reads.of_owns hr4)
          clear hr4 hf4 Hin3 Ho3
          clear b0 b1 b2 b3 b4 b5 b6 bbl s0 s1 sbl
          have hx := Hc.out w4 Hk4.out
          obtain ⟨hx1, hx2⟩ := hx
          obtain ⟨b0, b1, b2, b3, b4, b5, b6⟩ := hx1
          have bbl := cell_lt b0
          have sp := hx2
          have s0 := cell_of_cells sp 0
          have s1 := cell_of_cells sp 1
          have sbl := lt_of_block sp
          clear sp
          go_wp2_with fail
          refine (Hrdy.out _ (Hk.out.nt Hk4.out)).mono ?_
          rintro e w5 ⟨v5, rfl, hr5, hf5⟩
          have Hk5 := Lib.hid (Hk4.out.nt hf5.1)
          have Ho5 := Lib.hid (Ho4.out.keep hf5.1)
          have Hr45 := Lib.hid (Hr4.out.keeps hf5.1 (by simp))
          obtain ⟨ad5, c5, he5, _, _⟩ := ownsRow_shape hr5
          subst he5
          have Hr5 := Lib.hid (Reads.of_owns hr5)
          clear hr5 hf5 Ho4 Hr4
          clear b0 b1 b2 b3 b4 b5 b6 bbl s0 s1 sbl
          go_wp2_with fail
          refine (awake08_any _).mono ?_
          rintro e w6 ⟨rfl, hk6⟩
          have Hk6 := Lib.hid hk6
          clear hk6
          have hpl := fun W (hW : Keeps (fun _ => False) w5 W) => plainI64_same D (.slice ad4 nD c4) (.slice ad5 nD c5) W (by rw [HnD.out]; exact Hr45.out.keeps hW (by simp)) (by rw [HnD.out]; exact Hr5.out.keeps hW (by simp)) (by have := HDl.out; omega)
          have Hpl := Lib.hid hpl; clear hpl
          go_wp2_with fail
          refine (Hpl.out _ Hk6.out).mono ?_
          rintro e w7 ⟨rfl, hk7⟩
          have Hk7 := Lib.hid (Hk6.out.nt hk7)
          clear hk7
          have hkept := keptEv_any B ad cap L ⟨71, 0, 0, 0, 0⟩ w7 (Ho5.out.keep Hk7.out) (by rw [Hn.out]; exact Hr.out.keeps (Hk.out.nt (Hk5.out.nt Hk7.out)) (by simp)) (by rw [Hn.out]; omega)
          rw [Hn.out] at hkept
          simp only [Ev.agg] at hkept
          have Hkept := Lib.hid hkept; clear hkept
          go_wp2_with fail
          refine Hkept.out.mono ?_
          rintro e w8 ⟨rfl, hk8⟩
          have Hk8 := Lib.hid ((Hk.out.nt (Hk5.out.nt Hk7.out)).nt hk8)
          clear hk8
          go_wp2_with fail
          go_ret
          exact ⟨rfl, Hk8.out.below (by simp) (Nat.le_refl _)⟩
        · clear hcnd
          go_enter Try.func7, Try.ntmps7
          go_wp2_with fail
          obtain ⟨W0, hW0⟩ : ∃ x, x = ((w.alloc (.cells #[.int .i64 t.limit, .slice adt nt ct, .int .i64 t.cyc, .int .i64 t.due, .int .i64 t.minFixed, .int .i64 t.minPart, .int .i64 t.start] 27)).alloc (.cells #[.int .i64 fr, .int .i64 te0] 51)) := ⟨_, rfl⟩
          have hs : ((w.alloc (.cells #[.int .i64 t.limit, .slice adt nt ct, .int .i64 t.cyc, .int .i64 t.due, .int .i64 t.minFixed, .int .i64 t.minPart, .int .i64 t.start] 27)).alloc (.cells #[.int .i64 fr, .int .i64 te0] 51)).heap[w.heap.size + 1]? = some (.cells #[.int .i64 fr, .int .i64 te0] 51 (0, 0)) := halloc_at _ _ (by simp)
          have hk := (Keeps.alloc w _).nt (Keeps.alloc (w.alloc (.cells #[.int .i64 t.limit, .slice adt nt ct, .int .i64 t.cyc, .int .i64 t.due, .int .i64 t.minFixed, .int .i64 t.minPart, .int .i64 t.start] 27)) (.cells #[.int .i64 fr, .int .i64 te0] 51))
          have ht := Htb.out _ (Keeps.alloc _ (.cells #[.int .i64 fr, .int .i64 te0] 51))
          rw [← hW0] at hs hk ht ⊢
          obtain ⟨te, hte⟩ : ∃ x, x = te0 := ⟨_, rfl⟩
          rw [← hte] at hs
          have HW0 := Lib.hid hW0; clear hW0; have Hte := Lib.hid hte; clear hte
          have hc : ∀ W, Keeps (fun _ => False) W0 W → tbS w.heap.size t (.slice adt nt ct) W ∧ W.heap[w.heap.size + 1]? = some (.cells #[.int .i64 fr, .int .i64 te] 51 (0, 0)) := fun W hW => ⟨ht.keep hW, box_old hs hW (by simp)⟩
          have hrdy := Hrdy.out te
          have hdy := Hdy.out te
          obtain ⟨v1, hv1⟩ : ∃ v, onVal t L tr d = v := ⟨_, rfl⟩
          obtain ⟨z1, hz1⟩ : ∃ v, daysErr t L tr d d = v := ⟨_, rfl⟩
          obtain ⟨z2, hz2⟩ : ∃ v, daysErr t L tr fr te = v := ⟨_, rfl⟩
          obtain ⟨D, hD⟩ : ∃ v, daysOf t L tr fr te = v := ⟨_, rfl⟩
          have hon := Hon.out
          have hron := Hron.out
          have hDl : D.length ≤ 40001 := by
            rw [← hD]
            unfold daysOf
            split
            · rename_i h0
              rw [daysL_length]
              have h := h0
              unfold daysErr at h
              split at h
              · split at h
                · cases h
                · split at h
                  · cases h
                  · omega
              · rename_i h1; exact absurd h h1
            · simp
          rw [hz2, hD] at hrdy hdy
          rw [hv1, hz1] at hon hron
          obtain ⟨nD, hnD⟩ : ∃ n, D.length = n := ⟨_, rfl⟩
          rw [hnD] at hrdy hdy
          clear Hon Hron Hrdy Hdy Htb
          have Hs := Lib.hid hs; clear hs; have Hk := Lib.hid hk; clear hk; have Ht := Lib.hid ht; clear ht; have Hc := Lib.hid hc; clear hc; have Hrdy := Lib.hid hrdy; clear hrdy; have Hdy := Lib.hid hdy; clear hdy; have Hv1 := Lib.hid hv1; clear hv1; have Hz1 := Lib.hid hz1; clear hz1; have Hz2 := Lib.hid hz2; clear hz2; have HD := Lib.hid hD; clear hD; have Hon := Lib.hid hon; clear hon; have Hron := Lib.hid hron; clear hron; have HDl := Lib.hid hDl; clear hDl; have HnD := Lib.hid hnD; clear hnD
          refine (Hown.out _ Hk.out).mono ?_
          rintro e w1 ⟨rfl, ho1, hk1⟩
          obtain ⟨B, hB⟩ : ∃ B, B = W0.heap.size + 1 := ⟨_, rfl⟩
          rw [← hB] at ho1 ⊢
          have hin : Reads w1 5 (.slice (some ⟨B, 0, none⟩) n (n + 3)) n (L.flatMap Ev.cells) := by have := ho1.reads; rwa [Hn.out] at this
          have hx := Hc.out w1 hk1
          obtain ⟨hx1, hx2⟩ := hx
          obtain ⟨b0, b1, b2, b3, b4, b5, b6⟩ := hx1
          have bbl := cell_lt b0
          have sp := hx2
          have s0 := cell_of_cells sp 0
          have s1 := cell_of_cells sp 1
          have sbl := lt_of_block sp
          clear sp
          have Ho1 := Lib.hid ho1; clear ho1; have Hk1 := Lib.hid hk1; clear hk1; have HB := Lib.hid hB; clear hB; have Hin := Lib.hid hin; clear hin
          go_wp2_with fail
          refine (Hon.out _ _ _ (Hk.out.nt Hk1.out) Hin.out).mono ?_
          rintro e w2 ⟨rfl, hk2⟩
          have Hk2 := Lib.hid (Hk1.out.nt hk2)
          have Hin2 := Lib.hid (Hin.out.keeps hk2 (by simp))
          have Ho2 := Lib.hid (Ho1.out.keep hk2)
          clear hk2 Hin Ho1
          clear b0 b1 b2 b3 b4 b5 b6 bbl s0 s1 sbl
          have hx := Hc.out w2 Hk2.out
          obtain ⟨hx1, hx2⟩ := hx
          obtain ⟨b0, b1, b2, b3, b4, b5, b6⟩ := hx1
          have bbl := cell_lt b0
          have sp := hx2
          have s0 := cell_of_cells sp 0
          have s1 := cell_of_cells sp 1
          have sbl := lt_of_block sp
          clear sp
          go_wp2_with fail
          refine (Hron.out _ (Hk.out.nt Hk2.out)).mono ?_
          rintro e w3 ⟨rfl, hk3⟩
          have Hk3 := Lib.hid (Hk2.out.nt hk3)
          have Hin3 := Lib.hid (Hin2.out.keeps hk3 (by simp))
          have Ho3 := Lib.hid (Ho2.out.keep hk3)
          clear hk3 Hin2 Ho2
          clear b0 b1 b2 b3 b4 b5 b6 bbl s0 s1 sbl
          have hx := Hc.out w3 Hk3.out
          obtain ⟨hx1, hx2⟩ := hx
          obtain ⟨b0, b1, b2, b3, b4, b5, b6⟩ := hx1
          have bbl := cell_lt b0
          have sp := hx2
          have s0 := cell_of_cells sp 0
          have s1 := cell_of_cells sp 1
          have sbl := lt_of_block sp
          clear sp
          go_wp2_with fail
          refine (Hdy.out _ _ _ (Hk.out.nt Hk3.out) Hin3.out).mono ?_
          rintro e w4 ⟨v4, rfl, hr4, hf4⟩
          have Hk4 := Lib.hid (Hk3.out.nt hf4.1)
          have Ho4 := Lib.hid (Ho3.out.keep hf4.1)
          obtain ⟨ad4, c4, he4, _, _⟩ := ownsRow_shape hr4
          subst he4
          have Hr4 := Lib.hid (Reads.of_owns hr4)
          clear hr4 hf4 Hin3 Ho3
          clear b0 b1 b2 b3 b4 b5 b6 bbl s0 s1 sbl
          have hx := Hc.out w4 Hk4.out
          obtain ⟨hx1, hx2⟩ := hx
          obtain ⟨b0, b1, b2, b3, b4, b5, b6⟩ := hx1
          have bbl := cell_lt b0
          have sp := hx2
          have s0 := cell_of_cells sp 0
          have s1 := cell_of_cells sp 1
          have sbl := lt_of_block sp
          clear sp
          go_wp2_with fail
          refine (Hrdy.out _ (Hk.out.nt Hk4.out)).mono ?_
          rintro e w5 ⟨v5, rfl, hr5, hf5⟩
          have Hk5 := Lib.hid (Hk4.out.nt hf5.1)
          have Ho5 := Lib.hid (Ho4.out.keep hf5.1)
          have Hr45 := Lib.hid (Hr4.out.keeps hf5.1 (by simp))
          obtain ⟨ad5, c5, he5, _, _⟩ := ownsRow_shape hr5
          subst he5
          have Hr5 := Lib.hid (Reads.of_owns hr5)
          clear hr5 hf5 Ho4 Hr4
          clear b0 b1 b2 b3 b4 b5 b6 bbl s0 s1 sbl
          go_wp2_with fail
          refine (awake08_any _).mono ?_
          rintro e w6 ⟨rfl, hk6⟩
          have Hk6 := Lib.hid hk6
          clear hk6
          have hpl := fun W (hW : Keeps (fun _ => False) w5 W) => plainI64_same D (.slice ad4 nD c4) (.slice ad5 nD c5) W (by rw [HnD.out]; exact Hr45.out.keeps hW (by simp)) (by rw [HnD.out]; exact Hr5.out.keeps hW (by simp)) (by have := HDl.out; omega)
          have Hpl := Lib.hid hpl; clear hpl
          go_wp2_with fail
          refine (Hpl.out _ Hk6.out).mono ?_
          rintro e w7 ⟨rfl, hk7⟩
          have Hk7 := Lib.hid (Hk6.out.nt hk7)
          clear hk7
          have hkept := keptEv_any B ad cap L ⟨71, 0, 0, 0, 0⟩ w7 (Ho5.out.keep Hk7.out) (by rw [Hn.out]; exact Hr.out.keeps (Hk.out.nt (Hk5.out.nt Hk7.out)) (by simp)) (by rw [Hn.out]; omega)
          rw [Hn.out] at hkept
          simp only [Ev.agg] at hkept
          have Hkept := Lib.hid hkept; clear hkept
          go_wp2_with fail
          refine Hkept.out.mono ?_
          rintro e w8 ⟨rfl, hk8⟩
          have Hk8 := Lib.hid ((Hk.out.nt (Hk5.out.nt Hk7.out)).nt hk8)
          clear hk8
          go_wp2_with fail
          go_ret
          exact ⟨rfl, Hk8.out.below (by simp) (Nat.le_refl _)⟩
      · clear hcnd
        go_enter Try.func7, Try.ntmps7
        go_wp2_with fail
        obtain ⟨W0, hW0⟩ : ∃ x, x = ((w.alloc (.cells #[.int .i64 t.limit, .slice adt nt ct, .int .i64 t.cyc, .int .i64 t.due, .int .i64 t.minFixed, .int .i64 t.minPart, .int .i64 t.start] 27)).alloc (.cells #[.int .i64 fr, .int .i64 te0] 51)) := ⟨_, rfl⟩
        have hs : ((w.alloc (.cells #[.int .i64 t.limit, .slice adt nt ct, .int .i64 t.cyc, .int .i64 t.due, .int .i64 t.minFixed, .int .i64 t.minPart, .int .i64 t.start] 27)).alloc (.cells #[.int .i64 fr, .int .i64 te0] 51)).heap[w.heap.size + 1]? = some (.cells #[.int .i64 fr, .int .i64 te0] 51 (0, 0)) := halloc_at _ _ (by simp)
        have hk := (Keeps.alloc w _).nt (Keeps.alloc (w.alloc (.cells #[.int .i64 t.limit, .slice adt nt ct, .int .i64 t.cyc, .int .i64 t.due, .int .i64 t.minFixed, .int .i64 t.minPart, .int .i64 t.start] 27)) (.cells #[.int .i64 fr, .int .i64 te0] 51))
        have ht := Htb.out _ (Keeps.alloc _ (.cells #[.int .i64 fr, .int .i64 te0] 51))
        rw [← hW0] at hs hk ht ⊢
        obtain ⟨te, hte⟩ : ∃ x, x = te0 := ⟨_, rfl⟩
        rw [← hte] at hs
        have HW0 := Lib.hid hW0; clear hW0; have Hte := Lib.hid hte; clear hte
        have hc : ∀ W, Keeps (fun _ => False) W0 W → tbS w.heap.size t (.slice adt nt ct) W ∧ W.heap[w.heap.size + 1]? = some (.cells #[.int .i64 fr, .int .i64 te] 51 (0, 0)) := fun W hW => ⟨ht.keep hW, box_old hs hW (by simp)⟩
        have hrdy := Hrdy.out te
        have hdy := Hdy.out te
        obtain ⟨v1, hv1⟩ : ∃ v, onVal t L tr d = v := ⟨_, rfl⟩
        obtain ⟨z1, hz1⟩ : ∃ v, daysErr t L tr d d = v := ⟨_, rfl⟩
        obtain ⟨z2, hz2⟩ : ∃ v, daysErr t L tr fr te = v := ⟨_, rfl⟩
        obtain ⟨D, hD⟩ : ∃ v, daysOf t L tr fr te = v := ⟨_, rfl⟩
        have hon := Hon.out
        have hron := Hron.out
        have hDl : D.length ≤ 40001 := by
          rw [← hD]
          unfold daysOf
          split
          · rename_i h0
            rw [daysL_length]
            have h := h0
            unfold daysErr at h
            split at h
            · split at h
              · cases h
              · split at h
                · cases h
                · omega
            · rename_i h1; exact absurd h h1
          · simp
        rw [hz2, hD] at hrdy hdy
        rw [hv1, hz1] at hon hron
        obtain ⟨nD, hnD⟩ : ∃ n, D.length = n := ⟨_, rfl⟩
        rw [hnD] at hrdy hdy
        clear Hon Hron Hrdy Hdy Htb
        have Hs := Lib.hid hs; clear hs; have Hk := Lib.hid hk; clear hk; have Ht := Lib.hid ht; clear ht; have Hc := Lib.hid hc; clear hc; have Hrdy := Lib.hid hrdy; clear hrdy; have Hdy := Lib.hid hdy; clear hdy; have Hv1 := Lib.hid hv1; clear hv1; have Hz1 := Lib.hid hz1; clear hz1; have Hz2 := Lib.hid hz2; clear hz2; have HD := Lib.hid hD; clear hD; have Hon := Lib.hid hon; clear hon; have Hron := Lib.hid hron; clear hron; have HDl := Lib.hid hDl; clear hDl; have HnD := Lib.hid hnD; clear hnD
        refine (Hown.out _ Hk.out).mono ?_
        rintro e w1 ⟨rfl, ho1, hk1⟩
        obtain ⟨B, hB⟩ : ∃ B, B = W0.heap.size + 1 := ⟨_, rfl⟩
        rw [← hB] at ho1 ⊢
        have hin : Reads w1 5 (.slice (some ⟨B, 0, none⟩) n (n + 3)) n (L.flatMap Ev.cells) := by have := ho1.reads; rwa [Hn.out] at this
        have hx := Hc.out w1 hk1
        obtain ⟨hx1, hx2⟩ := hx
        obtain ⟨b0, b1, b2, b3, b4, b5, b6⟩ := hx1
        have bbl := cell_lt b0
        have sp := hx2
        have s0 := cell_of_cells sp 0
        have s1 := cell_of_cells sp 1
        have sbl := lt_of_block sp
        clear sp
        have Ho1 := Lib.hid ho1; clear ho1; have Hk1 := Lib.hid hk1; clear hk1; have HB := Lib.hid hB; clear hB; have Hin := Lib.hid hin; clear hin
        go_wp2_with fail
        refine (Hon.out _ _ _ (Hk.out.nt Hk1.out) Hin.out).mono ?_
        rintro e w2 ⟨rfl, hk2⟩
        have Hk2 := Lib.hid (Hk1.out.nt hk2)
        have Hin2 := Lib.hid (Hin.out.keeps hk2 (by simp))
        have Ho2 := Lib.hid (Ho1.out.keep hk2)
        clear hk2 Hin Ho1
        clear b0 b1 b2 b3 b4 b5 b6 bbl s0 s1 sbl
        have hx := Hc.out w2 Hk2.out
        obtain ⟨hx1, hx2⟩ := hx
        obtain ⟨b0, b1, b2, b3, b4, b5, b6⟩ := hx1
        have bbl := cell_lt b0
        have sp := hx2
        have s0 := cell_of_cells sp 0
        have s1 := cell_of_cells sp 1
        have sbl := lt_of_block sp
        clear sp
        go_wp2_with fail
        refine (Hron.out _ (Hk.out.nt Hk2.out)).mono ?_
        rintro e w3 ⟨rfl, hk3⟩
        have Hk3 := Lib.hid (Hk2.out.nt hk3)
        have Hin3 := Lib.hid (Hin2.out.keeps hk3 (by simp))
        have Ho3 := Lib.hid (Ho2.out.keep hk3)
        clear hk3 Hin2 Ho2
        clear b0 b1 b2 b3 b4 b5 b6 bbl s0 s1 sbl
        have hx := Hc.out w3 Hk3.out
        obtain ⟨hx1, hx2⟩ := hx
        obtain ⟨b0, b1, b2, b3, b4, b5, b6⟩ := hx1
        have bbl := cell_lt b0
        have sp := hx2
        have s0 := cell_of_cells sp 0
        have s1 := cell_of_cells sp 1
        have sbl := lt_of_block sp
        clear sp
        go_wp2_with fail
        refine (Hdy.out _ _ _ (Hk.out.nt Hk3.out) Hin3.out).mono ?_
        rintro e w4 ⟨v4, rfl, hr4, hf4⟩
        have Hk4 := Lib.hid (Hk3.out.nt hf4.1)
        have Ho4 := Lib.hid (Ho3.out.keep hf4.1)
        obtain ⟨ad4, c4, he4, _, _⟩ := ownsRow_shape hr4
        subst he4
        have Hr4 := Lib.hid (Reads.of_owns hr4)
        clear hr4 hf4 Hin3 Ho3
        clear b0 b1 b2 b3 b4 b5 b6 bbl s0 s1 sbl
        have hx := Hc.out w4 Hk4.out
        obtain ⟨hx1, hx2⟩ := hx
        obtain ⟨b0, b1, b2, b3, b4, b5, b6⟩ := hx1
        have bbl := cell_lt b0
        have sp := hx2
        have s0 := cell_of_cells sp 0
        have s1 := cell_of_cells sp 1
        have sbl := lt_of_block sp
        clear sp
        go_wp2_with fail
        refine (Hrdy.out _ (Hk.out.nt Hk4.out)).mono ?_
        rintro e w5 ⟨v5, rfl, hr5, hf5⟩
        have Hk5 := Lib.hid (Hk4.out.nt hf5.1)
        have Ho5 := Lib.hid (Ho4.out.keep hf5.1)
        have Hr45 := Lib.hid (Hr4.out.keeps hf5.1 (by simp))
        obtain ⟨ad5, c5, he5, _, _⟩ := ownsRow_shape hr5
        subst he5
        have Hr5 := Lib.hid (Reads.of_owns hr5)
        clear hr5 hf5 Ho4 Hr4
        clear b0 b1 b2 b3 b4 b5 b6 bbl s0 s1 sbl
        go_wp2_with fail
        refine (awake08_any _).mono ?_
        rintro e w6 ⟨rfl, hk6⟩
        have Hk6 := Lib.hid hk6
        clear hk6
        have hpl := fun W (hW : Keeps (fun _ => False) w5 W) => plainI64_same D (.slice ad4 nD c4) (.slice ad5 nD c5) W (by rw [HnD.out]; exact Hr45.out.keeps hW (by simp)) (by rw [HnD.out]; exact Hr5.out.keeps hW (by simp)) (by have := HDl.out; omega)
        have Hpl := Lib.hid hpl; clear hpl
        go_wp2_with fail
        refine (Hpl.out _ Hk6.out).mono ?_
        rintro e w7 ⟨rfl, hk7⟩
        have Hk7 := Lib.hid (Hk6.out.nt hk7)
        clear hk7
        have hkept := keptEv_any B ad cap L ⟨71, 0, 0, 0, 0⟩ w7 (Ho5.out.keep Hk7.out) (by rw [Hn.out]; exact Hr.out.keeps (Hk.out.nt (Hk5.out.nt Hk7.out)) (by simp)) (by rw [Hn.out]; omega)
        rw [Hn.out] at hkept
        simp only [Ev.agg] at hkept
        have Hkept := Lib.hid hkept; clear hkept
        go_wp2_with fail
        refine Hkept.out.mono ?_
        rintro e w8 ⟨rfl, hk8⟩
        have Hk8 := Lib.hid ((Hk.out.nt (Hk5.out.nt Hk7.out)).nt hk8)
        clear hk8
        go_wp2_with fail
        go_ret
        exact ⟨rfl, Hk8.out.below (by simp) (Nat.le_refl _)⟩
end Go.Proofs.Ytelhlbplbkglkaa
