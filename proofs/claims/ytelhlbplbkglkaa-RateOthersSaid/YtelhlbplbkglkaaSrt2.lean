/- The walks of the library's stable sort at events: insertion. -/
import Derived.Test.YtelhlbplbkglkaaSrt
import Derived.Shelf.Abstract
namespace Go.Proofs.Ytelhlbplbkglkaa
open Go.RowKit
/-- A function that tells two events apart by their days. -/
structure CmpBy (f : Nat) (ok : Ev → Prop) : Prop where
  eg : ∀ args w, (callFunc f args).run Try.prog w = .ok (.enter f args) w
  call : ∀ x y W, ok x → ok y → Calls Try.prog f #[x.agg, y.agg] W fun e w' => ∃ z, e = .returned (.int .i64 z) ∧ (z < 0 ↔ x.day < y.day) ∧ Keeps (fun _ => False) W w'
/-- Two events of a row. -/
def twoS (g p q : Nat) (a0 a1 a2 a3 a4 b0 b1 b2 b3 b4 : Int) (w : World) : Prop :=
  (w.cell? ⟨g, p * 5, none⟩ = some (.int .i64 a0) ∧ w.cell? ⟨g, p * 5 + 1, none⟩ = some (.int .i64 a1) ∧ w.cell? ⟨g, p * 5 + 2, none⟩ = some (.int .i64 a2) ∧ w.cell? ⟨g, p * 5 + 3, none⟩ = some (.int .i64 a3) ∧ w.cell? ⟨g, p * 5 + 4, none⟩ = some (.int .i64 a4)) ∧
  (w.cell? ⟨g, q * 5, none⟩ = some (.int .i64 b0) ∧ w.cell? ⟨g, q * 5 + 1, none⟩ = some (.int .i64 b1) ∧ w.cell? ⟨g, q * 5 + 2, none⟩ = some (.int .i64 b2) ∧ w.cell? ⟨g, q * 5 + 3, none⟩ = some (.int .i64 b3) ∧ w.cell? ⟨g, q * 5 + 4, none⟩ = some (.int .i64 b4))
theorem twoS.of {w : World} {g n cap p q : Nat} {X : List Ev} (h : RowE w g n cap X) {a0 a1 a2 a3 a4 b0 b1 b2 b3 b4 : Int} (hp : X[p]? = some ⟨a0, a1, a2, a3, a4⟩) (hq : X[q]? = some ⟨b0, b1, b2, b3, b4⟩) : twoS g p q a0 a1 a2 a3 a4 b0 b1 b2 b3 b4 w := ⟨h.cells hp, h.cells hq⟩
theorem twoS.keep {w w' : World} {S : Nat → Prop} {g p q : Nat} {a0 a1 a2 a3 a4 b0 b1 b2 b3 b4 : Int} (h : twoS g p q a0 a1 a2 a3 a4 b0 b1 b2 b3 b4 w) (hk : Keeps S w w') (hS : ¬ S g) : twoS g p q a0 a1 a2 a3 a4 b0 b1 b2 b3 b4 w' := by
  obtain ⟨⟨h0, h1, h2, h3, h4⟩, k0, k1, k2, k3, k4⟩ := h
  have hl : g < w.heap.size := cell_lt h0
  have c := fun o => hk.cell (p := ⟨g, o, none⟩) hl hS
  unfold twoS
  exact ⟨⟨(c _).trans h0, (c _).trans h1, (c _).trans h2, (c _).trans h3, (c _).trans h4⟩, (c _).trans k0, (c _).trans k1, (c _).trans k2, (c _).trans k3, (c _).trans k4⟩
theorem inssEv_step {X : List Ev} {a i j : Nat} (h : ∀ s t, a ≤ s → s < t → t ≤ i → t ≠ j + 1 → dy X s ≤ dy X t) (haj : a ≤ j) (hl : j + 1 < X.length) (hji : j + 1 ≤ i) (hd : dy X (j + 1) < dy X j) :
    ∀ s t, a ≤ s → s < t → t ≤ i → t ≠ j → dy (swp X j (j + 1)) s ≤ dy (swp X j (j + 1)) t := by
  have hg := fun t => swp_get (X := X) (i := j) (j := j + 1) (by omega) hl t
  have e1 : dy (swp X j (j + 1)) (j + 1) = dy X j := dy_congr (by rw [hg, if_pos rfl])
  have e2 : dy (swp X j (j + 1)) j = dy X (j + 1) := dy_congr (by rw [hg, if_neg (by omega), if_pos rfl])
  have e3 : ∀ t, t ≠ j → t ≠ j + 1 → dy (swp X j (j + 1)) t = dy X t := fun t h1 h2 => dy_congr (by rw [hg, if_neg h2, if_neg h1])
  intro s t h1 h2 h3 h4
  by_cases ht : t = j + 1
  · subst ht
    rw [e1]
    by_cases hs : s = j
    · subst hs; rw [e2]; omega
    · rw [e3 s hs (by omega)]; exact h s j h1 (by omega) (by omega) (by omega)
  · rw [e3 t h4 ht]
    by_cases hs : s = j
    · subst hs; rw [e2]; exact h _ t (by omega) (by omega) h3 ht
    · by_cases hs2 : s = j + 1
      · subst hs2; rw [e1]; exact h j t (by omega) (by omega) h3 ht
      · rw [e3 s hs hs2]; exact h s t h1 h2 h3 ht
set_option maxRecDepth 100000 in
set_option maxHeartbeats 3200000 in
theorem inssEv_any (f : Nat) (ok : Ev → Prop) (hc : CmpBy f ok) (a b n cap g : Nat) (L : List Ev) (w : World) (h : RowE w g n cap L) (hab : a ≤ b) (hbn : b ≤ n) (hok : ∀ x ∈ L, ok x) (hn : n ≤ 1000000) :
    Calls Try.prog 67 #[.slice (some ⟨g, 0, none⟩) n cap, .int .i64 a, .int .i64 b, .func (.func f) #[] #[]] w fun e w' => e = .returned (.tuple #[]) ∧ ∃ X, Turned L X a b ∧ Upto X a b ∧ RowE w' g n cap X ∧ Keeps (fun i => i = g) w w' := by
  have eg := hc.eg
  have hcall := hc.call
  simp only [Ev.agg] at hcall
  have H := Lib.hid h; clear h; have Hok := Lib.hid hok; clear hok; have Hc := Lib.hid hc; clear hc; have Hcall := Lib.hid hcall; clear hcall
  go_enter Try.func67, Try.ntmps67
  go_wp2
  go_loopw [8] (fun x wx => ∃ (i : Nat) (X : List Ev), x = .int .i64 (i : Nat) ∧ a < i ∧ i ≤ b + 1 ∧ Turned L X a b ∧ Upto X a i ∧ RowE wx g n cap X ∧ Keeps (fun i => i = g) w wx) (fun x _ => b + 1 - (intOf x).toNat)
  case atStart => exact ⟨a + 1, L, by go_num, by omega, by omega, Turned.refl _ _ _, Upto.one (by omega), H.out, Keeps.refl _ _⟩
  case round =>
    obtain ⟨i, X, rfl, hai, hib, ht, hu, hrow, hk⟩ := hrel
    by_cases hlt : i < b
    · have hltI : (i : Int) < (b : Int) := by omega
      obtain ⟨W1, hW1⟩ : ∃ x, x = wr := ⟨_, rfl⟩; subst hW1
      have hin : ∀ s t, a ≤ s → s < t → t ≤ i → t ≠ i → dy X s ≤ dy X t := fun s t h1 h2 h3 h4 => hu s t h1 h2 (by omega)
      have Ht := Lib.hid ht; clear ht; have Hu := Lib.hid hu; clear hu; have Hrow := Lib.hid hrow; clear hrow; have Hk := Lib.hid hk; clear hk; have Hin := Lib.hid hin; clear hin
      go_wp2
      go_loopw [9] (fun x wx => ∃ (j : Nat) (Y : List Ev), x = .int .i64 (j : Nat) ∧ a ≤ j ∧ j ≤ i ∧ Turned L Y a b ∧ (∀ s t, a ≤ s → s < t → t ≤ i → t ≠ j → dy Y s ≤ dy Y t) ∧ RowE wx g n cap Y ∧ Keeps (fun i => i = g) w wx) (fun x _ => (intOf x).toNat)
      case atStart => exact ⟨i, X, rfl, by omega, Nat.le_refl _, Ht.out, Hin.out, Hrow.out, Hk.out⟩
      case round =>
        obtain ⟨j, Y, rfl, haj, hji, ht, hin, hrow, hk⟩ := hrel
        have hYn := hrow.2
        by_cases hja : a < j
        · obtain ⟨p, rfl⟩ : ∃ p, j = p + 1 := ⟨j - 1, by omega⟩
          obtain ⟨⟨x0, x1, x2, x3, x4⟩, hx⟩ := get_some (L := Y) (k := p + 1) (by omega)
          obtain ⟨⟨y0, y1, y2, y3, y4⟩, hy⟩ := get_some (L := Y) (k := p) (by omega)
          have okx : ok _ := Hok.out _ (ht.alike.mem (List.mem_of_getElem? hx))
          have oky : ok _ := Hok.out _ (ht.alike.mem (List.mem_of_getElem? hy))
          have hS := twoS.of (hrow.keep (Keeps.drew _)) hx hy
          have hxd := dy_of hx
          have hyd := dy_of hy
          simp only at hxd hyd
          have q1 : IntKind.i64.wrap (((p + 1 : Nat) : Int) - 1) = (p : Int) := by rw [show ((p + 1 : Nat) : Int) - 1 = (p : Int) by omega]; exact IntWalk.i64_in _ ⟨by omega, by omega⟩
          have q2 : (a : Int) < ((p + 1 : Nat) : Int) := by omega
          have q3 : (p : Int) < (n : Int) := by omega
          have p0 : (0 : Int) ≤ (p : Int) + 1 := by omega
          have e0 : ((p : Int) + 1).toNat = p + 1 := by omega
          have q9 : IntKind.i64.wrap (p : Int) = (p : Int) := IntWalk.i64_in _ ⟨by omega, by omega⟩
          have q6 : (a : Int) < (p : Int) + 1 := by omega
          have q7 : (p : Int) + 1 < (n : Int) := by omega
          have q8 : IntKind.i64.wrap ((p : Int) + 1 - 1) = (p : Int) := by rw [show (p : Int) + 1 - 1 = (p : Int) by omega]; exact IntWalk.i64_in _ ⟨by omega, by omega⟩
          have q5 : ((p + 1 : Nat) : Int) < (n : Int) := by omega
          have Ht := Lib.hid ht; clear ht; have Hin := Lib.hid hin; clear hin; have Hrow := Lib.hid hrow; clear hrow; have Hk := Lib.hid hk; clear hk; have Hx := Lib.hid hx; clear hx; have Hy := Lib.hid hy; clear hy; have Okx := Lib.hid okx; clear okx; have Oky := Lib.hid oky; clear oky; have HS := Lib.hid hS; clear hS; have Hxd := Lib.hid hxd; clear hxd; have Hyd := Lib.hid hyd; clear hyd
          have hcl := fun W => Hcall.out ⟨x0, x1, x2, x3, x4⟩ ⟨y0, y1, y2, y3, y4⟩ W Okx.out Oky.out
          simp only at hcl
          have Hcl := Lib.hid hcl; clear hcl
          by_cases hd : x1 < y1
          · go_wp2_with fail
            refine wp_region_mixw (twoS g (p + 1) p x0 x1 x2 x3 x4 y0 y1 y2 y3 y4) (.take 0 (.take 1 (.take 2 (.take 3 (.take 4 (.take 5 (.take 6 (.take 7 (.take 8 (.take 9 (.take 10 (.take 11 (.take 12 (.take 13 (.move 14 (.take 15 (.take 16 .done))))))))))))))))) (by kernel_rfl) (by kernel_rfl) ?_ ?_
            · exact HS.out
            intro w1 hs1 hk1
            repeat (first
              | (refine mix_skip rfl (by rfl) ?_; try simp only [Act.put, List.setIfInBounds_toArray, List.set_cons_zero, List.set_cons_succ])
              | (refine mix_skipm rfl (by rfl) ?_; try simp only [Act.put, List.setIfInBounds_toArray, List.set_cons_zero, List.set_cons_succ])
              | (refine mix_take (v := ?_) rfl (by rfl) ?_ ?_; rotate_left; (· intro w' hSw; unfold twoS at hSw; go_simp; (try with_reducible rfl)); rotate_right; try simp only [Act.put, List.setIfInBounds_toArray, List.set_cons_zero, List.set_cons_succ]))
            refine mix_move rfl (fun K hK => ?_)
            go_simp
            go_at_fn f
            ((with_reducible refine (Hcl.out w1).mono ?_); rintro e w2 ⟨z, rfl, hz, hk2⟩; dsimp only)
            have hz' : z < 0 := hz.2 hd
            refine hK.out _ _ (by exact hs1.keep hk2 (by simp)) ?_
            clear hK K
            try simp only [Act.put, List.setIfInBounds_toArray, List.set_cons_zero, List.set_cons_succ]
            repeat (first
              | (refine mix_skip rfl (by rfl) ?_; try simp only [Act.put, List.setIfInBounds_toArray, List.set_cons_zero, List.set_cons_succ])
              | (refine mix_skipm rfl (by rfl) ?_; try simp only [Act.put, List.setIfInBounds_toArray, List.set_cons_zero, List.set_cons_succ])
              | (refine mix_take (v := ?_) rfl (by rfl) ?_ ?_; rotate_left; (· intro w' hSw; unfold twoS at hSw; go_simp; (try with_reducible rfl)); rotate_right; try simp only [Act.put, List.setIfInBounds_toArray, List.set_cons_zero, List.set_cons_succ]))
            refine mix_done ?_
            have hrow2 := (Hrow.out.keep hk1).keep hk2
            have hkw := (Hk.out.trans (hk1.mono (by simp))).trans (hk2.mono (by simp))
            clear hs1 hz
            have hstep := inssEv_step Hin.out (by omega) (by omega) (by omega) (by rw [Hxd.out, Hyd.out]; exact hd)
            have htn := Ht.out.trans (swp_turned (X := Y) (i := p) (a := a) (b := b) (by omega) (by omega) (by omega) (by rw [Hxd.out, Hyd.out]; exact hd))
            obtain ⟨c0, c1, c2, c3, c4⟩ := (hrow2).cells Hx.out
            obtain ⟨d0, d1, d2, d3, d4⟩ := (hrow2).cells Hy.out
            have fa0 : (w2).frozen? ⟨g, (p + 1) * 5, none⟩ = false := (hrow2).free _
            have fa1 : (w2).frozen? ⟨g, (p + 1) * 5 + 1, none⟩ = false := (hrow2).free _
            have fa2 : (w2).frozen? ⟨g, (p + 1) * 5 + 2, none⟩ = false := (hrow2).free _
            have fa3 : (w2).frozen? ⟨g, (p + 1) * 5 + 3, none⟩ = false := (hrow2).free _
            have fa4 : (w2).frozen? ⟨g, (p + 1) * 5 + 4, none⟩ = false := (hrow2).free _
            have fb0 : (w2).frozen? ⟨g, (p) * 5, none⟩ = false := (hrow2).free _
            have fb1 : (w2).frozen? ⟨g, (p) * 5 + 1, none⟩ = false := (hrow2).free _
            have fb2 : (w2).frozen? ⟨g, (p) * 5 + 2, none⟩ = false := (hrow2).free _
            have fb3 : (w2).frozen? ⟨g, (p) * 5 + 3, none⟩ = false := (hrow2).free _
            have fb4 : (w2).frozen? ⟨g, (p) * 5 + 4, none⟩ = false := (hrow2).free _
            have hrow3 := (hrow2.swp Hx.out Hy.out).keep (Keeps.drew _)
            rw [swp_comm Y p (by omega)] at hrow3
            have hk3 := hkw.same (((putE_keeps w2 g (p + 1) y0 y1 y2 y3 y4).same (putE_keeps _ g p x0 x1 x2 x3 x4)).same (Keeps.drew _))
            unfold putE at hrow3 hk3
            have Hk1 := Lib.hid hk1; clear hk1; have Hk2 := Lib.hid hk2; clear hk2; have Hrow2 := Lib.hid hrow2; clear hrow2; have Hkw := Lib.hid hkw; clear hkw; have Hrow3 := Lib.hid hrow3; clear hrow3; have Hk3 := Lib.hid hk3; clear hk3; have Hstep := Lib.hid hstep; clear hstep; have Htn := Lib.hid htn; clear htn
            clear hz'
            go_wp2_with fail
            go_region
            all_goals go_wp2_with fail
            all_goals go_roundw
            case rel => exact ⟨p, _, by go_num, by omega, by omega, Htn.out, Hstep.out, Hrow3.out, Hk3.out⟩
            case measure => simp [intOf]
          · go_wp2_with fail
            refine wp_region_mixw (twoS g (p + 1) p x0 x1 x2 x3 x4 y0 y1 y2 y3 y4) (.take 0 (.take 1 (.take 2 (.take 3 (.take 4 (.take 5 (.take 6 (.take 7 (.take 8 (.take 9 (.take 10 (.take 11 (.take 12 (.take 13 (.move 14 (.take 15 (.take 16 .done))))))))))))))))) (by kernel_rfl) (by kernel_rfl) ?_ ?_
            · exact HS.out
            intro w1 hs1 hk1
            repeat (first
              | (refine mix_skip rfl (by rfl) ?_; try simp only [Act.put, List.setIfInBounds_toArray, List.set_cons_zero, List.set_cons_succ])
              | (refine mix_skipm rfl (by rfl) ?_; try simp only [Act.put, List.setIfInBounds_toArray, List.set_cons_zero, List.set_cons_succ])
              | (refine mix_take (v := ?_) rfl (by rfl) ?_ ?_; rotate_left; (· intro w' hSw; unfold twoS at hSw; go_simp; (try with_reducible rfl)); rotate_right; try simp only [Act.put, List.setIfInBounds_toArray, List.set_cons_zero, List.set_cons_succ]))
            refine mix_move rfl (fun K hK => ?_)
            go_simp
            go_at_fn f
            ((with_reducible refine (Hcl.out w1).mono ?_); rintro e w2 ⟨z, rfl, hz, hk2⟩; dsimp only)
            have hz' : ¬ z < 0 := fun h => by have := hz.1 h; omega
            refine hK.out _ _ (by exact hs1.keep hk2 (by simp)) ?_
            clear hK K
            try simp only [Act.put, List.setIfInBounds_toArray, List.set_cons_zero, List.set_cons_succ]
            repeat (first
              | (refine mix_skip rfl (by rfl) ?_; try simp only [Act.put, List.setIfInBounds_toArray, List.set_cons_zero, List.set_cons_succ])
              | (refine mix_skipm rfl (by rfl) ?_; try simp only [Act.put, List.setIfInBounds_toArray, List.set_cons_zero, List.set_cons_succ])
              | (refine mix_take (v := ?_) rfl (by rfl) ?_ ?_; rotate_left; (· intro w' hSw; unfold twoS at hSw; go_simp; (try with_reducible rfl)); rotate_right; try simp only [Act.put, List.setIfInBounds_toArray, List.set_cons_zero, List.set_cons_succ]))
            refine mix_done ?_
            have hrow2 := (Hrow.out.keep hk1).keep hk2
            have hkw := (Hk.out.trans (hk1.mono (by simp))).trans (hk2.mono (by simp))
            have hup : Upto Y a (i + 1) := fun s t h1 h2 h3 => by
              by_cases hte : t = p + 1
              · subst hte
                rcases Nat.lt_or_ge s p with h4 | h4
                · have e1 := Hin.out s p h1 h4 (by omega) (by omega)
                  rw [Hxd.out]; rw [Hyd.out] at e1; omega
                · obtain rfl : s = p := by omega
                  rw [Hxd.out, Hyd.out]; omega
              · exact Hin.out s t h1 h2 (by omega) hte
            clear hs1 hz
            have Hk1 := Lib.hid hk1; clear hk1; have Hk2 := Lib.hid hk2; clear hk2; have Hrow2 := Lib.hid hrow2; clear hrow2; have Hkw := Lib.hid hkw; clear hkw; have Hup := Lib.hid hup; clear hup; have Hz' := Lib.hid hz'; clear hz'
            go_wp2
            go_roundw
            case rel => exact ⟨i + 1, Y, by go_num, by omega, by omega, Ht.out, Hup.out, Hrow2.out, Hkw.out⟩
            case measure => simp [intOf]; omega
        · obtain rfl : j = a := by omega
          have hup : Upto Y j (i + 1) := fun s t h1 h2 h3 => hin s t h1 h2 (by omega) (by omega)
          have hrow2 := hrow.keep (Keeps.drew wr)
          have hkw := hk.same (Keeps.drew wr)
          have Ht := Lib.hid ht; clear ht; have Hin := Lib.hid hin; clear hin; have Hrow := Lib.hid hrow; clear hrow; have Hk := Lib.hid hk; clear hk; have Hup := Lib.hid hup; clear hup; have Hrow2 := Lib.hid hrow2; clear hrow2; have Hkw := Lib.hid hkw; clear hkw
          go_wp2_with fail
          go_region
          all_goals go_wp2
          all_goals go_roundw
          case rel => exact ⟨i + 1, Y, by go_num, by omega, by omega, Ht.out, Hup.out, Hrow2.out, Hkw.out⟩
          case measure => simp [intOf]; omega
    · go_wp2
      go_end0
      exact ⟨rfl, X, ht, hu.sub (Nat.le_refl _) (by omega), hrow, hk⟩
end Go.Proofs.Ytelhlbplbkglkaa
