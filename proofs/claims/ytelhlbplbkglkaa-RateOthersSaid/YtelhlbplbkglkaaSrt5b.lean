/- The walks of the library's stable sort at events: the merge of two runs, the middle behind the first one. -/
import Derived.Test.YtelhlbplbkglkaaSrt5
namespace Go.Proofs.Ytelhlbplbkglkaa
open Go.RowKit
set_option maxRecDepth 100000 in
set_option maxHeartbeats 3200000 in
theorem merge_mid2 (f : Nat) (ok : Ev → Prop) (hc : CmpBy f ok) (d : Nat) (ih : MergeAt f ok d) (a m b n cap g : Nat) (L : List Ev) (w : World) (hd : b - a ≤ d + 1) (h : RowE w g n cap L) (ham : a < m) (hmb : m < b) (ha1 : ¬ m = a + 1) (hb1 : ¬ b = m + 1) (hbn : b ≤ n) (hok : ∀ x ∈ L, ok x) (hn : n ≤ 1000000) (h1 : Upto L a m) (h2 : Upto L m b) (mid : Nat) (hmid : mid = (a + b) / 2) (hmm : m ≤ mid) :
    Calls Try.prog 68 #[.slice (some ⟨g, 0, none⟩) n cap, .int .i64 a, .int .i64 m, .int .i64 b, .func (.func f) #[] #[]] w (MergePost L g n cap a b w) := by
  have eg := hc.eg
  have hcall := hc.call
  simp only [Ev.agg] at hcall
  have q0 : (((m : Int) - (a : Int)) == 1) = false := by simp; omega
  have q1 : (((b : Int) - (m : Int)) == 1) = false := by simp; omega
  have hln := h.2
  have hmI : ((a : Int) + b) / 2 = mid := by omega
  have hamid : a < mid := by omega
  have hmidb : mid < b := by omega
  obtain ⟨p, hp⟩ : ∃ p, mid + m - 1 = p := ⟨_, rfl⟩
  have hpI : (mid : Int) + m - 1 = p := by omega
  have hlh : Half a m b mid a m := .inr ⟨hmm, rfl, rfl⟩
  have hmmI : ¬ (m : Int) > (mid : Int) := by omega
  have hmmJ : (m : Int) ≤ (mid : Int) := by omega
  have H := Lib.hid h; clear h; have Hok := Lib.hid hok; clear hok; have Hc := Lib.hid hc; clear hc; have Hcall := Lib.hid hcall; clear hcall; have H1 := Lib.hid h1; clear h1; have H2 := Lib.hid h2; clear h2; have Hmid := Lib.hid hmid; clear hmid; have Hp := Lib.hid hp; clear hp; have Ih := Lib.hid ih; clear ih; have Hlh := Lib.hid hlh; clear hlh
  go_enter Try.func68, Try.ntmps68
  go_wp2
  go_loopw [20, 21] (fun x y wx => ∃ (i j : Nat), x = .int .i64 (i : Nat) ∧ y = .int .i64 (j : Nat) ∧ Bs (fun c => dy L (p - c) < dy L c) a m i j ∧ RowE wx g n cap L ∧ Keeps (fun i => i = g) w wx) (fun x y _ => (intOf y).toNat - (intOf x).toNat)
  case atStart => exact ⟨a, m, by go_num, by go_num, Bs.start (by omega), H.out, Keeps.refl _ _⟩
  case round =>
    obtain ⟨i, j, rfl, rfl, hbs, hrow, hk⟩ := hrel
    by_cases hlt : i < j
    · have hltI : (i : Int) < (j : Int) := by omega
      have hbhi := hbs.hi'
      have hblo := hbs.lo'
      obtain ⟨h, hh⟩ : ∃ h : Nat, ((i : Int) + j) / 2 = h := ⟨(i + j) / 2, by omega⟩
      have hih : i ≤ h := by omega
      have hhj : h < j := by omega
      obtain ⟨q, hq⟩ : ∃ q, p - h = q := ⟨_, rfl⟩
      have hqI : (p : Int) - (h : Int) = q := by omega
      have hqn : q < n := by omega
      obtain ⟨⟨x0, x1, x2, x3, x4⟩, hx⟩ := get_some (L := L) (k := q) (by omega)
      obtain ⟨⟨y0, y1, y2, y3, y4⟩, hy⟩ := get_some (L := L) (k := h) (by omega)
      have okx : ok _ := Hok.out _ (List.mem_of_getElem? hx)
      have oky : ok _ := Hok.out _ (List.mem_of_getElem? hy)
      have hS := twoS.of (hrow.keep (Keeps.drew _)) hx hy
      have hxd := dy_of hx
      have hyd := dy_of hy
      simp only at hxd hyd
      have q2 : (h : Int) < (n : Int) := by omega
      have q3 : (q : Int) < (n : Int) := by omega
      have q5 : IntKind.i64.wrap (q : Int) = (q : Int) := IntWalk.i64_in _ ⟨by omega, by omega⟩
      have hmono := sym_mono (lo := a) (hi := m) H1.out H2.out ham hmb Hmid.out Hlh.out
      rw [Hp.out] at hmono
      have hcl := fun W => Hcall.out ⟨x0, x1, x2, x3, x4⟩ ⟨y0, y1, y2, y3, y4⟩ W okx oky
      simp only at hcl
      have Hbs := Lib.hid hbs; clear hbs; have Hrow := Lib.hid hrow; clear hrow; have Hk := Lib.hid hk; clear hk; have Hx := Lib.hid hx; clear hx; have Hy := Lib.hid hy; clear hy; have Okx := Lib.hid okx; clear okx; have Oky := Lib.hid oky; clear oky; have HS := Lib.hid hS; clear hS; have Hxd := Lib.hid hxd; clear hxd; have Hyd := Lib.hid hyd; clear hyd; have Hmono := Lib.hid hmono; clear hmono; have Hcl := Lib.hid hcl; clear hcl; have Hq := Lib.hid hq; clear hq
      go_wp2_with fail
      try rw [hh]
      clear hh
      by_cases hlt2 : x1 < y1
      · skip
        refine wp_region_mixw (twoS g q h x0 x1 x2 x3 x4 y0 y1 y2 y3 y4) (.take 0 (.take 1 (.take 2 (.take 3 (.take 4 (.take 5 (.take 6 (.take 7 (.take 8 (.take 9 (.take 10 (.move 11 (.take 12 (.take 13 .done)))))))))))))) (by kernel_rfl) (by kernel_rfl) ?_ ?_
        · exact HS.out
        intro w1 hs1 hk1
        repeat (first
          | (refine mix_skip rfl (by rfl) ?_; try simp only [Act.put, List.setIfInBounds_toArray, List.set_cons_zero, List.set_cons_succ])
          | (refine mix_skipm rfl (by rfl) ?_; try simp only [Act.put, List.setIfInBounds_toArray, List.set_cons_zero, List.set_cons_succ])
          | (refine mix_take (v := ?_) rfl (by rfl) ?_ ?_; rotate_left; (· intro w' hSw; unfold twoS at hSw; go_simp; (try with_reducible rfl)); rotate_right; try simp only [Act.put, List.setIfInBounds_toArray, List.set_cons_zero, List.set_cons_succ]))
        refine mix_move rfl (fun K hK => ?_)
        go_simp
        go_at_fn f
        ((with_reducible refine (Hcl.out w1).mono ?_); rintro e w2 ⟨z, rfl, hz, hk2⟩; dsimp only)
        have hz' : z < 0 := hz.2 hlt2
        refine hK.out _ _ (by exact hs1.keep hk2 (by simp)) ?_
        clear hK K
        try simp only [Act.put, List.setIfInBounds_toArray, List.set_cons_zero, List.set_cons_succ]
        repeat (first
          | (refine mix_skip rfl (by rfl) ?_; try simp only [Act.put, List.setIfInBounds_toArray, List.set_cons_zero, List.set_cons_succ])
          | (refine mix_skipm rfl (by rfl) ?_; try simp only [Act.put, List.setIfInBounds_toArray, List.set_cons_zero, List.set_cons_succ])
          | (refine mix_take (v := ?_) rfl (by rfl) ?_ ?_; rotate_left; (· intro w' hSw; unfold twoS at hSw; go_simp; (try with_reducible rfl)); rotate_right; try simp only [Act.put, List.setIfInBounds_toArray, List.set_cons_zero, List.set_cons_succ]))
        refine mix_done ?_
        have hrow2 := (Hrow.out.keep hk1).keep hk2
        have hkw := (Hk.out.trans (hk1.mono (by simp))).trans (hk2.mono (by simp))
        have hb2 := Hbs.out.down Hmono.out hih hhj (by rw [Hq.out, Hxd.out, Hyd.out]; omega)
        clear hs1 hz
        have Hk1 := Lib.hid hk1; clear hk1; have Hk2 := Lib.hid hk2; clear hk2; have Hrow2 := Lib.hid hrow2; clear hrow2; have Hkw := Lib.hid hkw; clear hkw; have Hb2 := Lib.hid hb2; clear hb2
        go_wp2_with fail
        go_roundw
        case rel => exact ⟨i, h, rfl, rfl, Hb2.out, Hrow2.out, Hkw.out⟩
        case measure => simp [intOf]; omega
      · skip
        refine wp_region_mixw (twoS g q h x0 x1 x2 x3 x4 y0 y1 y2 y3 y4) (.take 0 (.take 1 (.take 2 (.take 3 (.take 4 (.take 5 (.take 6 (.take 7 (.take 8 (.take 9 (.take 10 (.move 11 (.take 12 (.take 13 .done)))))))))))))) (by kernel_rfl) (by kernel_rfl) ?_ ?_
        · exact HS.out
        intro w1 hs1 hk1
        repeat (first
          | (refine mix_skip rfl (by rfl) ?_; try simp only [Act.put, List.setIfInBounds_toArray, List.set_cons_zero, List.set_cons_succ])
          | (refine mix_skipm rfl (by rfl) ?_; try simp only [Act.put, List.setIfInBounds_toArray, List.set_cons_zero, List.set_cons_succ])
          | (refine mix_take (v := ?_) rfl (by rfl) ?_ ?_; rotate_left; (· intro w' hSw; unfold twoS at hSw; go_simp; (try with_reducible rfl)); rotate_right; try simp only [Act.put, List.setIfInBounds_toArray, List.set_cons_zero, List.set_cons_succ]))
        refine mix_move rfl (fun K hK => ?_)
        go_simp
        go_at_fn f
        ((with_reducible refine (Hcl.out w1).mono ?_); rintro e w2 ⟨z, rfl, hz, hk2⟩; dsimp only)
        have hz' : ¬ z < 0 := fun h => by have := hz.1 h; omega
        refine hK.out _ _ (by exact hs1.keep hk2 (by simp)) ?_
        clear hK K
        try simp only [Act.put, List.setIfInBounds_toArray, List.set_cons_zero, List.set_cons_succ]
        repeat (first
          | (refine mix_skip rfl (by rfl) ?_; try simp only [Act.put, List.setIfInBounds_toArray, List.set_cons_zero, List.set_cons_succ])
          | (refine mix_skipm rfl (by rfl) ?_; try simp only [Act.put, List.setIfInBounds_toArray, List.set_cons_zero, List.set_cons_succ])
          | (refine mix_take (v := ?_) rfl (by rfl) ?_ ?_; rotate_left; (· intro w' hSw; unfold twoS at hSw; go_simp; (try with_reducible rfl)); rotate_right; try simp only [Act.put, List.setIfInBounds_toArray, List.set_cons_zero, List.set_cons_succ]))
        refine mix_done ?_
        have hrow2 := (Hrow.out.keep hk1).keep hk2
        have hkw := (Hk.out.trans (hk1.mono (by simp))).trans (hk2.mono (by simp))
        have hb2 := Hbs.out.up Hmono.out hih hhj (by rw [Hq.out, Hxd.out, Hyd.out]; omega)
        clear hs1 hz
        have Hk1 := Lib.hid hk1; clear hk1; have Hk2 := Lib.hid hk2; clear hk2; have Hrow2 := Lib.hid hrow2; clear hrow2; have Hkw := Lib.hid hkw; clear hkw; have Hb2 := Lib.hid hb2; clear hb2
        go_wp2_with fail
        go_roundw
        case rel => exact ⟨h + 1, j, by go_num, rfl, Hb2.out, Hrow2.out, Hkw.out⟩
        case measure => simp [intOf]; omega
    · obtain rfl : j = i := by have := hbs.le; omega
      rw [← Hp.out] at hbs
      have hsym := sym_of (lo := a) (hi := m) H1.out H2.out ham hmb Hmid.out Hlh.out hbs
      obtain ⟨fin, hfin⟩ : ∃ fin, mid + m - j = fin := ⟨_, rfl⟩
      rw [hfin] at hsym
      have z1 := hsym.al
      have z2 := hsym.sm
      have z3 := hsym.mf
      have z4 := hsym.fb
      have z5 := hsym.smid
      have z6 := hsym.midf
      have z7 := hsym.sum
      have hfI : (mid : Int) + m - j = fin := by omega
      obtain ⟨W1, hW1⟩ : ∃ x, x = wr := ⟨_, rfl⟩; subst hW1
      have Hbs := Lib.hid hbs; clear hbs; have Hrow := Lib.hid hrow; clear hrow; have Hk := Lib.hid hk; clear hk; have Hsym := Lib.hid hsym; clear hsym; have Hfin := Lib.hid hfin; clear hfin
      by_cases hR : j < m ∧ m < fin
      · have hR1 : (j : Int) < (m : Int) := by omega
        have hR2 : (m : Int) < (fin : Int) := by omega
        obtain ⟨X, hrot, hcR⟩ := rot_call (.func (.func f) #[] #[]) Hrow.out Hsym.out hR.1 hR.2 hn hbn
        have Hrot := Lib.hid hrot; clear hrot; have HcR := Lib.hid hcR; clear hcR
        go_wp2_with (go_at_call 72; (with_reducible refine HcR.out.mono ?_); rintro e w2 ⟨rfl, hrow2, hk2⟩; have Hrow2 := Lib.hid hrow2; have Hk2 := Lib.hid (Hk.out.same hk2); clear hrow2 hk2; refine halt ?_)
        refine Lib.hid ?_
        have hrl := Hrot.out.left Hsym.out H1.out H2.out
        have hrr := Hrot.out.right Hsym.out H1.out H2.out
        have hcr := Hrot.out.cross Hsym.out H1.out H2.out
        have Hrl := Lib.hid hrl; clear hrl; have Hrr := Lib.hid hrr; clear hrr; have Hcr := Lib.hid hcr; clear hcr
        by_cases hA : a < j ∧ j < mid
        · have hA1 : (a : Int) < (j : Int) := by omega
          have hA2 : (j : Int) < (mid : Int) := by omega
          have hcA := Ih.out a j mid n cap g X w2 (by omega) Hrow2.out (by omega) (by omega) (by omega) (fun x hx => Hok.out x (Hrot.out.t.alike.mem hx)) hn Hrl.out.1 Hrl.out.2
          have HcA := Lib.hid hcA; clear hcA
          go_wp2_with (first | (go_at_call 68; (with_reducible refine HcA.out.mono ?_); rintro e w3 ⟨rfl, Y, htY, huY, hrow3, hk3⟩; have HtY := Lib.hid htY; have HuY := Lib.hid huY; have Hrow3 := Lib.hid hrow3; have Hk3 := Lib.hid (Hk2.out.same hk3); clear htY huY hrow3 hk3; refine halt ?_))
          refine Lib.hid ?_
          by_cases hB : fin < b ∧ mid < fin
          · have hB1 : (mid : Int) < (fin : Int) := by omega
            have hB2 : (fin : Int) < (b : Int) := by omega
            have hcB := Ih.out mid fin b n cap g Y w3 (by omega) Hrow3.out (by omega) (by omega) hbn (fun x hx => Hok.out x (Hrot.out.t.alike.mem (HtY.out.alike.mem hx))) hn
              ((Hrr.out.1.eq fun t h1 h2 => HtY.out.out t (.inr h1))) ((Hrr.out.2.eq fun t h1 h2 => HtY.out.out t (.inr (by omega))))
            have HcB := Lib.hid hcB; clear hcB
            go_wp2_with (go_at_call 68; (with_reducible refine HcB.out.mono ?_); rintro e w4 ⟨rfl, Z, htZ, huZ, hrow4, hk4⟩; have HtZ := Lib.hid htZ; have HuZ := Lib.hid huZ; have Hrow4 := Lib.hid hrow4; have Hk4 := Lib.hid hk4; clear htZ huZ hrow4 hk4)
            go_end0
            have hd := sym_done (X := X) (by omega) (by omega) (by have := Hrot.out.t.len; omega) Hcr.out HtY.out HuY.out HtZ.out HuZ.out
            exact ⟨rfl, Z, Hrot.out.t.trans hd.1, hd.2, Hrow4.out, Hk3.out.same Hk4.out⟩
          · have huZ : Upto Y mid b := by
              have e1 := Hrr.out
              by_cases hB3 : mid < fin
              · exact (e1.1.sub (Nat.le_refl _) (by omega)).eq fun t h1 h2 => HtY.out.out t (.inr h1)
              · exact (e1.2.sub (by omega) (Nat.le_refl _)).eq fun t h1 h2 => HtY.out.out t (.inr h1)
            have HuZ := Lib.hid huZ; clear huZ
            by_cases hB3 : (mid : Int) < (fin : Int)
            · have hB4 : ¬ (fin : Int) < (b : Int) := by omega
              go_wp2
              go_end0
              have hd := sym_done (X := X) (by omega) (by omega) (by have := Hrot.out.t.len; omega) Hcr.out HtY.out HuY.out (Turned.refl _ _ _) HuZ.out
              exact ⟨rfl, Y, Hrot.out.t.trans hd.1, hd.2, Hrow3.out, Hk3.out⟩
            · go_wp2
              go_end0
              have hd := sym_done (X := X) (by omega) (by omega) (by have := Hrot.out.t.len; omega) Hcr.out HtY.out HuY.out (Turned.refl _ _ _) HuZ.out
              exact ⟨rfl, Y, Hrot.out.t.trans hd.1, hd.2, Hrow3.out, Hk3.out⟩
        · have huY : Upto X a mid := by
            by_cases hA3 : a < j
            · exact Hrl.out.1.sub (Nat.le_refl _) (by omega)
            · exact Hrl.out.2.sub (by omega) (Nat.le_refl _)
          obtain ⟨Y, hY⟩ : ∃ Y, Y = X := ⟨_, rfl⟩
          obtain ⟨w3, hw3⟩ : ∃ w3, w3 = w2 := ⟨_, rfl⟩
          have htY : Turned X Y a mid := by rw [hY]; exact Turned.refl _ _ _
          have hrow3 : RowE w3 g n cap Y := by rw [hY, hw3]; exact Hrow2.out
          have hk3 : Keeps (fun i => i = g) w w3 := by rw [hw3]; exact Hk2.out
          rw [← hY] at huY
          rw [← hw3]
          have HuY := Lib.hid huY; clear huY; have HtY := Lib.hid htY; clear htY; have Hrow3 := Lib.hid hrow3; clear hrow3; have Hk3 := Lib.hid hk3; clear hk3; have HY := Lib.hid hY; clear hY; have Hw3 := Lib.hid hw3; clear hw3
          by_cases hA3 : (a : Int) < (j : Int)
          · have hA4 : ¬ (j : Int) < (mid : Int) := by omega
            by_cases hB : fin < b ∧ mid < fin
            · have hB1 : (mid : Int) < (fin : Int) := by omega
              have hB2 : (fin : Int) < (b : Int) := by omega
              have hcB := Ih.out mid fin b n cap g Y w3 (by omega) Hrow3.out (by omega) (by omega) hbn (fun x hx => Hok.out x (Hrot.out.t.alike.mem (HtY.out.alike.mem hx))) hn
                ((Hrr.out.1.eq fun t h1 h2 => HtY.out.out t (.inr h1))) ((Hrr.out.2.eq fun t h1 h2 => HtY.out.out t (.inr (by omega))))
              have HcB := Lib.hid hcB; clear hcB
              go_wp2_with (go_at_call 68; (with_reducible refine HcB.out.mono ?_); rintro e w4 ⟨rfl, Z, htZ, huZ, hrow4, hk4⟩; have HtZ := Lib.hid htZ; have HuZ := Lib.hid huZ; have Hrow4 := Lib.hid hrow4; have Hk4 := Lib.hid hk4; clear htZ huZ hrow4 hk4)
              go_end0
              have hd := sym_done (X := X) (by omega) (by omega) (by have := Hrot.out.t.len; omega) Hcr.out HtY.out HuY.out HtZ.out HuZ.out
              exact ⟨rfl, Z, Hrot.out.t.trans hd.1, hd.2, Hrow4.out, Hk3.out.same Hk4.out⟩
            · have huZ : Upto Y mid b := by
                have e1 := Hrr.out
                by_cases hB3 : mid < fin
                · exact (e1.1.sub (Nat.le_refl _) (by omega)).eq fun t h1 h2 => HtY.out.out t (.inr h1)
                · exact (e1.2.sub (by omega) (Nat.le_refl _)).eq fun t h1 h2 => HtY.out.out t (.inr h1)
              have HuZ := Lib.hid huZ; clear huZ
              by_cases hB3 : (mid : Int) < (fin : Int)
              · have hB4 : ¬ (fin : Int) < (b : Int) := by omega
                go_wp2
                go_end0
                have hd := sym_done (X := X) (by omega) (by omega) (by have := Hrot.out.t.len; omega) Hcr.out HtY.out HuY.out (Turned.refl _ _ _) HuZ.out
                exact ⟨rfl, Y, Hrot.out.t.trans hd.1, hd.2, Hrow3.out, Hk3.out⟩
              · go_wp2
                go_end0
                have hd := sym_done (X := X) (by omega) (by omega) (by have := Hrot.out.t.len; omega) Hcr.out HtY.out HuY.out (Turned.refl _ _ _) HuZ.out
                exact ⟨rfl, Y, Hrot.out.t.trans hd.1, hd.2, Hrow3.out, Hk3.out⟩
          · skip
            by_cases hB : fin < b ∧ mid < fin
            · have hB1 : (mid : Int) < (fin : Int) := by omega
              have hB2 : (fin : Int) < (b : Int) := by omega
              have hcB := Ih.out mid fin b n cap g Y w3 (by omega) Hrow3.out (by omega) (by omega) hbn (fun x hx => Hok.out x (Hrot.out.t.alike.mem (HtY.out.alike.mem hx))) hn
                ((Hrr.out.1.eq fun t h1 h2 => HtY.out.out t (.inr h1))) ((Hrr.out.2.eq fun t h1 h2 => HtY.out.out t (.inr (by omega))))
              have HcB := Lib.hid hcB; clear hcB
              go_wp2_with (go_at_call 68; (with_reducible refine HcB.out.mono ?_); rintro e w4 ⟨rfl, Z, htZ, huZ, hrow4, hk4⟩; have HtZ := Lib.hid htZ; have HuZ := Lib.hid huZ; have Hrow4 := Lib.hid hrow4; have Hk4 := Lib.hid hk4; clear htZ huZ hrow4 hk4)
              go_end0
              have hd := sym_done (X := X) (by omega) (by omega) (by have := Hrot.out.t.len; omega) Hcr.out HtY.out HuY.out HtZ.out HuZ.out
              exact ⟨rfl, Z, Hrot.out.t.trans hd.1, hd.2, Hrow4.out, Hk3.out.same Hk4.out⟩
            · have huZ : Upto Y mid b := by
                have e1 := Hrr.out
                by_cases hB3 : mid < fin
                · exact (e1.1.sub (Nat.le_refl _) (by omega)).eq fun t h1 h2 => HtY.out.out t (.inr h1)
                · exact (e1.2.sub (by omega) (Nat.le_refl _)).eq fun t h1 h2 => HtY.out.out t (.inr h1)
              have HuZ := Lib.hid huZ; clear huZ
              by_cases hB3 : (mid : Int) < (fin : Int)
              · have hB4 : ¬ (fin : Int) < (b : Int) := by omega
                go_wp2
                go_end0
                have hd := sym_done (X := X) (by omega) (by omega) (by have := Hrot.out.t.len; omega) Hcr.out HtY.out HuY.out (Turned.refl _ _ _) HuZ.out
                exact ⟨rfl, Y, Hrot.out.t.trans hd.1, hd.2, Hrow3.out, Hk3.out⟩
              · go_wp2
                go_end0
                have hd := sym_done (X := X) (by omega) (by omega) (by have := Hrot.out.t.len; omega) Hcr.out HtY.out HuY.out (Turned.refl _ _ _) HuZ.out
                exact ⟨rfl, Y, Hrot.out.t.trans hd.1, hd.2, Hrow3.out, Hk3.out⟩
      · have hrot := rot_none Hsym.out (by omega)
        obtain ⟨X, hX⟩ : ∃ X, X = L := ⟨_, rfl⟩
        obtain ⟨w2, hw2⟩ : ∃ w2, w2 = W1 := ⟨_, rfl⟩
        have hrot' : Rot L X a m b mid j fin := by rw [hX]; exact hrot
        have hrow2 : RowE w2 g n cap X := by rw [hX, hw2]; exact Hrow.out
        have hk2 : Keeps (fun i => i = g) w w2 := by rw [hw2]; exact Hk.out
        have Hrot := Lib.hid hrot'; clear hrot hrot'
        rw [← hw2]
        have Hrow2 := Lib.hid hrow2; clear hrow2; have Hk2 := Lib.hid hk2; clear hk2; have HX := Lib.hid hX; clear hX; have Hw2 := Lib.hid hw2; clear hw2
        by_cases hR3 : (j : Int) < (m : Int)
        · have hR4 : ¬ (m : Int) < (fin : Int) := by omega
          have hrl := Hrot.out.left Hsym.out H1.out H2.out
          have hrr := Hrot.out.right Hsym.out H1.out H2.out
          have hcr := Hrot.out.cross Hsym.out H1.out H2.out
          have Hrl := Lib.hid hrl; clear hrl; have Hrr := Lib.hid hrr; clear hrr; have Hcr := Lib.hid hcr; clear hcr
          by_cases hA : a < j ∧ j < mid
          · have hA1 : (a : Int) < (j : Int) := by omega
            have hA2 : (j : Int) < (mid : Int) := by omega
            have hcA := Ih.out a j mid n cap g X w2 (by omega) Hrow2.out (by omega) (by omega) (by omega) (fun x hx => Hok.out x (Hrot.out.t.alike.mem hx)) hn Hrl.out.1 Hrl.out.2
            have HcA := Lib.hid hcA; clear hcA
            go_wp2_with (first | (go_at_call 68; (with_reducible refine HcA.out.mono ?_); rintro e w3 ⟨rfl, Y, htY, huY, hrow3, hk3⟩; have HtY := Lib.hid htY; have HuY := Lib.hid huY; have Hrow3 := Lib.hid hrow3; have Hk3 := Lib.hid (Hk2.out.same hk3); clear htY huY hrow3 hk3; refine halt ?_))
            refine Lib.hid ?_
            by_cases hB : fin < b ∧ mid < fin
            · have hB1 : (mid : Int) < (fin : Int) := by omega
              have hB2 : (fin : Int) < (b : Int) := by omega
              have hcB := Ih.out mid fin b n cap g Y w3 (by omega) Hrow3.out (by omega) (by omega) hbn (fun x hx => Hok.out x (Hrot.out.t.alike.mem (HtY.out.alike.mem hx))) hn
                ((Hrr.out.1.eq fun t h1 h2 => HtY.out.out t (.inr h1))) ((Hrr.out.2.eq fun t h1 h2 => HtY.out.out t (.inr (by omega))))
              have HcB := Lib.hid hcB; clear hcB
              go_wp2_with (go_at_call 68; (with_reducible refine HcB.out.mono ?_); rintro e w4 ⟨rfl, Z, htZ, huZ, hrow4, hk4⟩; have HtZ := Lib.hid htZ; have HuZ := Lib.hid huZ; have Hrow4 := Lib.hid hrow4; have Hk4 := Lib.hid hk4; clear htZ huZ hrow4 hk4)
              go_end0
              have hd := sym_done (X := X) (by omega) (by omega) (by have := Hrot.out.t.len; omega) Hcr.out HtY.out HuY.out HtZ.out HuZ.out
              exact ⟨rfl, Z, Hrot.out.t.trans hd.1, hd.2, Hrow4.out, Hk3.out.same Hk4.out⟩
            · have huZ : Upto Y mid b := by
                have e1 := Hrr.out
                by_cases hB3 : mid < fin
                · exact (e1.1.sub (Nat.le_refl _) (by omega)).eq fun t h1 h2 => HtY.out.out t (.inr h1)
                · exact (e1.2.sub (by omega) (Nat.le_refl _)).eq fun t h1 h2 => HtY.out.out t (.inr h1)
              have HuZ := Lib.hid huZ; clear huZ
              by_cases hB3 : (mid : Int) < (fin : Int)
              · have hB4 : ¬ (fin : Int) < (b : Int) := by omega
                go_wp2
                go_end0
                have hd := sym_done (X := X) (by omega) (by omega) (by have := Hrot.out.t.len; omega) Hcr.out HtY.out HuY.out (Turned.refl _ _ _) HuZ.out
                exact ⟨rfl, Y, Hrot.out.t.trans hd.1, hd.2, Hrow3.out, Hk3.out⟩
              · go_wp2
                go_end0
                have hd := sym_done (X := X) (by omega) (by omega) (by have := Hrot.out.t.len; omega) Hcr.out HtY.out HuY.out (Turned.refl _ _ _) HuZ.out
                exact ⟨rfl, Y, Hrot.out.t.trans hd.1, hd.2, Hrow3.out, Hk3.out⟩
          · have huY : Upto X a mid := by
              by_cases hA3 : a < j
              · exact Hrl.out.1.sub (Nat.le_refl _) (by omega)
              · exact Hrl.out.2.sub (by omega) (Nat.le_refl _)
            obtain ⟨Y, hY⟩ : ∃ Y, Y = X := ⟨_, rfl⟩
            obtain ⟨w3, hw3⟩ : ∃ w3, w3 = w2 := ⟨_, rfl⟩
            have htY : Turned X Y a mid := by rw [hY]; exact Turned.refl _ _ _
            have hrow3 : RowE w3 g n cap Y := by rw [hY, hw3]; exact Hrow2.out
            have hk3 : Keeps (fun i => i = g) w w3 := by rw [hw3]; exact Hk2.out
            rw [← hY] at huY
            rw [← hw3]
            have HuY := Lib.hid huY; clear huY; have HtY := Lib.hid htY; clear htY; have Hrow3 := Lib.hid hrow3; clear hrow3; have Hk3 := Lib.hid hk3; clear hk3; have HY := Lib.hid hY; clear hY; have Hw3 := Lib.hid hw3; clear hw3
            by_cases hA3 : (a : Int) < (j : Int)
            · have hA4 : ¬ (j : Int) < (mid : Int) := by omega
              by_cases hB : fin < b ∧ mid < fin
              · have hB1 : (mid : Int) < (fin : Int) := by omega
                have hB2 : (fin : Int) < (b : Int) := by omega
                have hcB := Ih.out mid fin b n cap g Y w3 (by omega) Hrow3.out (by omega) (by omega) hbn (fun x hx => Hok.out x (Hrot.out.t.alike.mem (HtY.out.alike.mem hx))) hn
                  ((Hrr.out.1.eq fun t h1 h2 => HtY.out.out t (.inr h1))) ((Hrr.out.2.eq fun t h1 h2 => HtY.out.out t (.inr (by omega))))
                have HcB := Lib.hid hcB; clear hcB
                go_wp2_with (go_at_call 68; (with_reducible refine HcB.out.mono ?_); rintro e w4 ⟨rfl, Z, htZ, huZ, hrow4, hk4⟩; have HtZ := Lib.hid htZ; have HuZ := Lib.hid huZ; have Hrow4 := Lib.hid hrow4; have Hk4 := Lib.hid hk4; clear htZ huZ hrow4 hk4)
                go_end0
                have hd := sym_done (X := X) (by omega) (by omega) (by have := Hrot.out.t.len; omega) Hcr.out HtY.out HuY.out HtZ.out HuZ.out
                exact ⟨rfl, Z, Hrot.out.t.trans hd.1, hd.2, Hrow4.out, Hk3.out.same Hk4.out⟩
              · have huZ : Upto Y mid b := by
                  have e1 := Hrr.out
                  by_cases hB3 : mid < fin
                  · exact (e1.1.sub (Nat.le_refl _) (by omega)).eq fun t h1 h2 => HtY.out.out t (.inr h1)
                  · exact (e1.2.sub (by omega) (Nat.le_refl _)).eq fun t h1 h2 => HtY.out.out t (.inr h1)
                have HuZ := Lib.hid huZ; clear huZ
                by_cases hB3 : (mid : Int) < (fin : Int)
                · have hB4 : ¬ (fin : Int) < (b : Int) := by omega
                  go_wp2
                  go_end0
                  have hd := sym_done (X := X) (by omega) (by omega) (by have := Hrot.out.t.len; omega) Hcr.out HtY.out HuY.out (Turned.refl _ _ _) HuZ.out
                  exact ⟨rfl, Y, Hrot.out.t.trans hd.1, hd.2, Hrow3.out, Hk3.out⟩
                · go_wp2
                  go_end0
                  have hd := sym_done (X := X) (by omega) (by omega) (by have := Hrot.out.t.len; omega) Hcr.out HtY.out HuY.out (Turned.refl _ _ _) HuZ.out
                  exact ⟨rfl, Y, Hrot.out.t.trans hd.1, hd.2, Hrow3.out, Hk3.out⟩
            · skip
              by_cases hB : fin < b ∧ mid < fin
              · have hB1 : (mid : Int) < (fin : Int) := by omega
                have hB2 : (fin : Int) < (b : Int) := by omega
                have hcB := Ih.out mid fin b n cap g Y w3 (by omega) Hrow3.out (by omega) (by omega) hbn (fun x hx => Hok.out x (Hrot.out.t.alike.mem (HtY.out.alike.mem hx))) hn
                  ((Hrr.out.1.eq fun t h1 h2 => HtY.out.out t (.inr h1))) ((Hrr.out.2.eq fun t h1 h2 => HtY.out.out t (.inr (by omega))))
                have HcB := Lib.hid hcB; clear hcB
                go_wp2_with (go_at_call 68; (with_reducible refine HcB.out.mono ?_); rintro e w4 ⟨rfl, Z, htZ, huZ, hrow4, hk4⟩; have HtZ := Lib.hid htZ; have HuZ := Lib.hid huZ; have Hrow4 := Lib.hid hrow4; have Hk4 := Lib.hid hk4; clear htZ huZ hrow4 hk4)
                go_end0
                have hd := sym_done (X := X) (by omega) (by omega) (by have := Hrot.out.t.len; omega) Hcr.out HtY.out HuY.out HtZ.out HuZ.out
                exact ⟨rfl, Z, Hrot.out.t.trans hd.1, hd.2, Hrow4.out, Hk3.out.same Hk4.out⟩
              · have huZ : Upto Y mid b := by
                  have e1 := Hrr.out
                  by_cases hB3 : mid < fin
                  · exact (e1.1.sub (Nat.le_refl _) (by omega)).eq fun t h1 h2 => HtY.out.out t (.inr h1)
                  · exact (e1.2.sub (by omega) (Nat.le_refl _)).eq fun t h1 h2 => HtY.out.out t (.inr h1)
                have HuZ := Lib.hid huZ; clear huZ
                by_cases hB3 : (mid : Int) < (fin : Int)
                · have hB4 : ¬ (fin : Int) < (b : Int) := by omega
                  go_wp2
                  go_end0
                  have hd := sym_done (X := X) (by omega) (by omega) (by have := Hrot.out.t.len; omega) Hcr.out HtY.out HuY.out (Turned.refl _ _ _) HuZ.out
                  exact ⟨rfl, Y, Hrot.out.t.trans hd.1, hd.2, Hrow3.out, Hk3.out⟩
                · go_wp2
                  go_end0
                  have hd := sym_done (X := X) (by omega) (by omega) (by have := Hrot.out.t.len; omega) Hcr.out HtY.out HuY.out (Turned.refl _ _ _) HuZ.out
                  exact ⟨rfl, Y, Hrot.out.t.trans hd.1, hd.2, Hrow3.out, Hk3.out⟩
        · skip
          have hrl := Hrot.out.left Hsym.out H1.out H2.out
          have hrr := Hrot.out.right Hsym.out H1.out H2.out
          have hcr := Hrot.out.cross Hsym.out H1.out H2.out
          have Hrl := Lib.hid hrl; clear hrl; have Hrr := Lib.hid hrr; clear hrr; have Hcr := Lib.hid hcr; clear hcr
          by_cases hA : a < j ∧ j < mid
          · have hA1 : (a : Int) < (j : Int) := by omega
            have hA2 : (j : Int) < (mid : Int) := by omega
            have hcA := Ih.out a j mid n cap g X w2 (by omega) Hrow2.out (by omega) (by omega) (by omega) (fun x hx => Hok.out x (Hrot.out.t.alike.mem hx)) hn Hrl.out.1 Hrl.out.2
            have HcA := Lib.hid hcA; clear hcA
            go_wp2_with (first | (go_at_call 68; (with_reducible refine HcA.out.mono ?_); rintro e w3 ⟨rfl, Y, htY, huY, hrow3, hk3⟩; have HtY := Lib.hid htY; have HuY := Lib.hid huY; have Hrow3 := Lib.hid hrow3; have Hk3 := Lib.hid (Hk2.out.same hk3); clear htY huY hrow3 hk3; refine halt ?_))
            refine Lib.hid ?_
            by_cases hB : fin < b ∧ mid < fin
            · have hB1 : (mid : Int) < (fin : Int) := by omega
              have hB2 : (fin : Int) < (b : Int) := by omega
              have hcB := Ih.out mid fin b n cap g Y w3 (by omega) Hrow3.out (by omega) (by omega) hbn (fun x hx => Hok.out x (Hrot.out.t.alike.mem (HtY.out.alike.mem hx))) hn
                ((Hrr.out.1.eq fun t h1 h2 => HtY.out.out t (.inr h1))) ((Hrr.out.2.eq fun t h1 h2 => HtY.out.out t (.inr (by omega))))
              have HcB := Lib.hid hcB; clear hcB
              go_wp2_with (go_at_call 68; (with_reducible refine HcB.out.mono ?_); rintro e w4 ⟨rfl, Z, htZ, huZ, hrow4, hk4⟩; have HtZ := Lib.hid htZ; have HuZ := Lib.hid huZ; have Hrow4 := Lib.hid hrow4; have Hk4 := Lib.hid hk4; clear htZ huZ hrow4 hk4)
              go_end0
              have hd := sym_done (X := X) (by omega) (by omega) (by have := Hrot.out.t.len; omega) Hcr.out HtY.out HuY.out HtZ.out HuZ.out
              exact ⟨rfl, Z, Hrot.out.t.trans hd.1, hd.2, Hrow4.out, Hk3.out.same Hk4.out⟩
            · have huZ : Upto Y mid b := by
                have e1 := Hrr.out
                by_cases hB3 : mid < fin
                · exact (e1.1.sub (Nat.le_refl _) (by omega)).eq fun t h1 h2 => HtY.out.out t (.inr h1)
                · exact (e1.2.sub (by omega) (Nat.le_refl _)).eq fun t h1 h2 => HtY.out.out t (.inr h1)
              have HuZ := Lib.hid huZ; clear huZ
              by_cases hB3 : (mid : Int) < (fin : Int)
              · have hB4 : ¬ (fin : Int) < (b : Int) := by omega
                go_wp2
                go_end0
                have hd := sym_done (X := X) (by omega) (by omega) (by have := Hrot.out.t.len; omega) Hcr.out HtY.out HuY.out (Turned.refl _ _ _) HuZ.out
                exact ⟨rfl, Y, Hrot.out.t.trans hd.1, hd.2, Hrow3.out, Hk3.out⟩
              · go_wp2
                go_end0
                have hd := sym_done (X := X) (by omega) (by omega) (by have := Hrot.out.t.len; omega) Hcr.out HtY.out HuY.out (Turned.refl _ _ _) HuZ.out
                exact ⟨rfl, Y, Hrot.out.t.trans hd.1, hd.2, Hrow3.out, Hk3.out⟩
          · have huY : Upto X a mid := by
              by_cases hA3 : a < j
              · exact Hrl.out.1.sub (Nat.le_refl _) (by omega)
              · exact Hrl.out.2.sub (by omega) (Nat.le_refl _)
            obtain ⟨Y, hY⟩ : ∃ Y, Y = X := ⟨_, rfl⟩
            obtain ⟨w3, hw3⟩ : ∃ w3, w3 = w2 := ⟨_, rfl⟩
            have htY : Turned X Y a mid := by rw [hY]; exact Turned.refl _ _ _
            have hrow3 : RowE w3 g n cap Y := by rw [hY, hw3]; exact Hrow2.out
            have hk3 : Keeps (fun i => i = g) w w3 := by rw [hw3]; exact Hk2.out
            rw [← hY] at huY
            rw [← hw3]
            have HuY := Lib.hid huY; clear huY; have HtY := Lib.hid htY; clear htY; have Hrow3 := Lib.hid hrow3; clear hrow3; have Hk3 := Lib.hid hk3; clear hk3; have HY := Lib.hid hY; clear hY; have Hw3 := Lib.hid hw3; clear hw3
            by_cases hA3 : (a : Int) < (j : Int)
            · have hA4 : ¬ (j : Int) < (mid : Int) := by omega
              by_cases hB : fin < b ∧ mid < fin
              · have hB1 : (mid : Int) < (fin : Int) := by omega
                have hB2 : (fin : Int) < (b : Int) := by omega
                have hcB := Ih.out mid fin b n cap g Y w3 (by omega) Hrow3.out (by omega) (by omega) hbn (fun x hx => Hok.out x (Hrot.out.t.alike.mem (HtY.out.alike.mem hx))) hn
                  ((Hrr.out.1.eq fun t h1 h2 => HtY.out.out t (.inr h1))) ((Hrr.out.2.eq fun t h1 h2 => HtY.out.out t (.inr (by omega))))
                have HcB := Lib.hid hcB; clear hcB
                go_wp2_with (go_at_call 68; (with_reducible refine HcB.out.mono ?_); rintro e w4 ⟨rfl, Z, htZ, huZ, hrow4, hk4⟩; have HtZ := Lib.hid htZ; have HuZ := Lib.hid huZ; have Hrow4 := Lib.hid hrow4; have Hk4 := Lib.hid hk4; clear htZ huZ hrow4 hk4)
                go_end0
                have hd := sym_done (X := X) (by omega) (by omega) (by have := Hrot.out.t.len; omega) Hcr.out HtY.out HuY.out HtZ.out HuZ.out
                exact ⟨rfl, Z, Hrot.out.t.trans hd.1, hd.2, Hrow4.out, Hk3.out.same Hk4.out⟩
              · have huZ : Upto Y mid b := by
                  have e1 := Hrr.out
                  by_cases hB3 : mid < fin
                  · exact (e1.1.sub (Nat.le_refl _) (by omega)).eq fun t h1 h2 => HtY.out.out t (.inr h1)
                  · exact (e1.2.sub (by omega) (Nat.le_refl _)).eq fun t h1 h2 => HtY.out.out t (.inr h1)
                have HuZ := Lib.hid huZ; clear huZ
                by_cases hB3 : (mid : Int) < (fin : Int)
                · have hB4 : ¬ (fin : Int) < (b : Int) := by omega
                  go_wp2
                  go_end0
                  have hd := sym_done (X := X) (by omega) (by omega) (by have := Hrot.out.t.len; omega) Hcr.out HtY.out HuY.out (Turned.refl _ _ _) HuZ.out
                  exact ⟨rfl, Y, Hrot.out.t.trans hd.1, hd.2, Hrow3.out, Hk3.out⟩
                · go_wp2
                  go_end0
                  have hd := sym_done (X := X) (by omega) (by omega) (by have := Hrot.out.t.len; omega) Hcr.out HtY.out HuY.out (Turned.refl _ _ _) HuZ.out
                  exact ⟨rfl, Y, Hrot.out.t.trans hd.1, hd.2, Hrow3.out, Hk3.out⟩
            · skip
              by_cases hB : fin < b ∧ mid < fin
              · have hB1 : (mid : Int) < (fin : Int) := by omega
                have hB2 : (fin : Int) < (b : Int) := by omega
                have hcB := Ih.out mid fin b n cap g Y w3 (by omega) Hrow3.out (by omega) (by omega) hbn (fun x hx => Hok.out x (Hrot.out.t.alike.mem (HtY.out.alike.mem hx))) hn
                  ((Hrr.out.1.eq fun t h1 h2 => HtY.out.out t (.inr h1))) ((Hrr.out.2.eq fun t h1 h2 => HtY.out.out t (.inr (by omega))))
                have HcB := Lib.hid hcB; clear hcB
                go_wp2_with (go_at_call 68; (with_reducible refine HcB.out.mono ?_); rintro e w4 ⟨rfl, Z, htZ, huZ, hrow4, hk4⟩; have HtZ := Lib.hid htZ; have HuZ := Lib.hid huZ; have Hrow4 := Lib.hid hrow4; have Hk4 := Lib.hid hk4; clear htZ huZ hrow4 hk4)
                go_end0
                have hd := sym_done (X := X) (by omega) (by omega) (by have := Hrot.out.t.len; omega) Hcr.out HtY.out HuY.out HtZ.out HuZ.out
                exact ⟨rfl, Z, Hrot.out.t.trans hd.1, hd.2, Hrow4.out, Hk3.out.same Hk4.out⟩
              · have huZ : Upto Y mid b := by
                  have e1 := Hrr.out
                  by_cases hB3 : mid < fin
                  · exact (e1.1.sub (Nat.le_refl _) (by omega)).eq fun t h1 h2 => HtY.out.out t (.inr h1)
                  · exact (e1.2.sub (by omega) (Nat.le_refl _)).eq fun t h1 h2 => HtY.out.out t (.inr h1)
                have HuZ := Lib.hid huZ; clear huZ
                by_cases hB3 : (mid : Int) < (fin : Int)
                · have hB4 : ¬ (fin : Int) < (b : Int) := by omega
                  go_wp2
                  go_end0
                  have hd := sym_done (X := X) (by omega) (by omega) (by have := Hrot.out.t.len; omega) Hcr.out HtY.out HuY.out (Turned.refl _ _ _) HuZ.out
                  exact ⟨rfl, Y, Hrot.out.t.trans hd.1, hd.2, Hrow3.out, Hk3.out⟩
                · go_wp2
                  go_end0
                  have hd := sym_done (X := X) (by omega) (by omega) (by have := Hrot.out.t.len; omega) Hcr.out HtY.out HuY.out (Turned.refl _ _ _) HuZ.out
                  exact ⟨rfl, Y, Hrot.out.t.trans hd.1, hd.2, Hrow3.out, Hk3.out⟩
end Go.Proofs.Ytelhlbplbkglkaa
