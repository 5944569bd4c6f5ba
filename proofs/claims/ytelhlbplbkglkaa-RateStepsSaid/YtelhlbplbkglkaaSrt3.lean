/- The walks of the library's stable sort at events: the merge. -/
import Derived.Test.YtelhlbplbkglkaaSrt2
namespace Go.Proofs.Ytelhlbplbkglkaa
open Go.RowKit
/-- What a merge is to leave. -/
def MergePost (L : List Ev) (g n cap a b : Nat) (w : World) (e : Ending) (w' : World) : Prop := e = .returned (.tuple #[]) ∧ ∃ X, Turned L X a b ∧ Upto X a b ∧ RowE w' g n cap X ∧ Keeps (fun i => i = g) w w'
def MergeAt (f : Nat) (ok : Ev → Prop) (d : Nat) : Prop := ∀ (a m b n cap g : Nat) (L : List Ev) (w : World), b - a ≤ d → RowE w g n cap L → a < m → m < b → b ≤ n → (∀ x ∈ L, ok x) → n ≤ 1000000 → Upto L a m → Upto L m b →
    Calls Try.prog 68 #[.slice (some ⟨g, 0, none⟩) n cap, .int .i64 a, .int .i64 m, .int .i64 b, .func (.func f) #[] #[]] w (MergePost L g n cap a b w)
theorem left_step {L Y : List Ev} {a b k : Nat} (h1 : dy Y k = dy L a) (h2 : ∀ t, a ≤ t → t < k → dy Y t = dy L (t + 1)) (h3 : ∀ t, k < t → Y[t]? = L[t]?) (hk : a ≤ k) (hl : k + 1 < Y.length) :
    dy (swp Y k (k + 1)) (k + 1) = dy L a ∧ (∀ t, a ≤ t → t < k + 1 → dy (swp Y k (k + 1)) t = dy L (t + 1)) ∧ (∀ t, k + 1 < t → (swp Y k (k + 1))[t]? = L[t]?) := by
  have hg := fun t => swp_get (X := Y) (i := k) (j := k + 1) (by omega) hl t
  refine ⟨(dy_congr (by rw [hg, if_pos rfl])).trans h1, fun t h4 h5 => ?_, fun t h4 => ?_⟩
  · by_cases ht : t = k
    · subst ht; exact dy_congr (by rw [hg, if_neg (by omega), if_pos rfl]; exact h3 _ (by omega))
    · exact (dy_congr (by rw [hg, if_neg (by omega), if_neg ht])).trans (h2 t h4 (by omega))
  · rw [hg, if_neg (by omega), if_neg (by omega)]; exact h3 t (by omega)
theorem left_done {L Y : List Ev} {a b i : Nat} (h1 : dy Y (i - 1) = dy L a) (h2 : ∀ t, a ≤ t → t < i - 1 → dy Y t = dy L (t + 1)) (h3 : ∀ t, i - 1 < t → Y[t]? = L[t]?) (hs : Upto L (a + 1) b) (hbs : Bs (fun t => dy L a ≤ dy L t) (a + 1) b i i) : Upto Y a b := by
  have hlo := hbs.lo'
  have hhi := hbs.hi'
  have e3 : ∀ t, i - 1 < t → dy Y t = dy L t := fun t ht => dy_congr (h3 t ht)
  intro s t h4 h5 h6
  rcases Nat.lt_trichotomy t (i - 1) with h | h | h
  · rw [h2 s h4 (by omega), h2 t (by omega) h]; exact hs _ _ (by omega) (by omega) (by omega)
  · subst h
    have := hbs.below (s + 1) (by omega) (by omega)
    rw [h2 s h4 h5, h1]; omega
  · rw [e3 t h]
    have := hbs.above t (by omega) h6
    rcases Nat.lt_trichotomy s (i - 1) with h' | h' | h'
    · rw [h2 s h4 h']; exact hs _ _ (by omega) (by omega) h6
    · subst h'; rw [h1]; exact this
    · rw [e3 s h']; exact hs _ _ (by omega) h5 h6
set_option maxRecDepth 100000 in
set_option maxHeartbeats 3200000 in
theorem merge_left (f : Nat) (ok : Ev → Prop) (hc : CmpBy f ok) (a b n cap g : Nat) (L : List Ev) (w : World) (h : RowE w g n cap L) (hmb : a + 1 < b) (hbn : b ≤ n) (hok : ∀ x ∈ L, ok x) (hn : n ≤ 1000000) (h1 : Upto L (a + 1) b) :
    Calls Try.prog 68 #[.slice (some ⟨g, 0, none⟩) n cap, .int .i64 a, .int .i64 (a + 1 : Nat), .int .i64 b, .func (.func f) #[] #[]] w (MergePost L g n cap a b w) := by
  have eg := hc.eg
  have hcall := hc.call
  simp only [Ev.agg] at hcall
  have q0 : ((a + 1 : Nat) : Int) - (a : Int) = 1 := by omega
  obtain ⟨m, hm⟩ : ∃ m, a + 1 = m := ⟨_, rfl⟩
  rw [hm] at h1 q0 hmb ⊢
  have hmI : (m : Int) = (a : Int) + 1 := by omega
  have hln := h.2
  have H := Lib.hid h; clear h; have Hok := Lib.hid hok; clear hok; have Hc := Lib.hid hc; clear hc; have Hcall := Lib.hid hcall; clear hcall; have H1 := Lib.hid h1; clear h1; have Hm := Lib.hid hm; clear hm; have HmI := Lib.hid hmI; clear hmI
  go_enter Try.func68, Try.ntmps68
  go_wp2
  go_loopw [10, 11] (fun x y wx => ∃ (i j : Nat), x = .int .i64 (i : Nat) ∧ y = .int .i64 (j : Nat) ∧ Bs (fun t => dy L a ≤ dy L t) m b i j ∧ RowE wx g n cap L ∧ Keeps (fun i => i = g) w wx) (fun x y _ => (intOf y).toNat - (intOf x).toNat)
  case atStart => exact ⟨m, b, rfl, rfl, Bs.start (by omega), H.out, Keeps.refl _ _⟩
  case round =>
    obtain ⟨i, j, rfl, rfl, hbs, hrow, hk⟩ := hrel
    by_cases hlt : i < j
    · have hltI : (i : Int) < (j : Int) := by omega
      have hbhi := hbs.hi'
      have hblo := hbs.lo'
      obtain ⟨h, hh⟩ : ∃ h : Nat, ((i : Int) + j) / 2 = h := ⟨(i + j) / 2, by omega⟩
      have hih : i ≤ h := by omega
      have hhj : h < j := by omega
      obtain ⟨⟨x0, x1, x2, x3, x4⟩, hx⟩ := get_some (L := L) (k := h) (by omega)
      obtain ⟨⟨y0, y1, y2, y3, y4⟩, hy⟩ := get_some (L := L) (k := a) (by omega)
      have okx : ok _ := Hok.out _ (List.mem_of_getElem? hx)
      have oky : ok _ := Hok.out _ (List.mem_of_getElem? hy)
      have hS := twoS.of (hrow.keep (Keeps.drew _)) hx hy
      have hxd := dy_of hx
      have hyd := dy_of hy
      simp only at hxd hyd
      have q2 : (h : Int) < (n : Int) := by omega
      have q3 : (a : Int) < (n : Int) := by omega
      have hmono : ∀ s t, m ≤ s → s ≤ t → t < b → dy L a ≤ dy L s → dy L a ≤ dy L t := fun s t h1 h2 h3 h4 => by have := H1.out.le h1 h2 h3; omega
      have hcl := fun W => Hcall.out ⟨x0, x1, x2, x3, x4⟩ ⟨y0, y1, y2, y3, y4⟩ W okx oky
      simp only at hcl
      have Hbs := Lib.hid hbs; clear hbs; have Hrow := Lib.hid hrow; clear hrow; have Hk := Lib.hid hk; clear hk; have Hx := Lib.hid hx; clear hx; have Hy := Lib.hid hy; clear hy; have Okx := Lib.hid okx; clear okx; have Oky := Lib.hid oky; clear oky; have HS := Lib.hid hS; clear hS; have Hxd := Lib.hid hxd; clear hxd; have Hyd := Lib.hid hyd; clear hyd; have Hmono := Lib.hid hmono; clear hmono; have Hcl := Lib.hid hcl; clear hcl
      go_wp2_with fail
      try rw [hh]
      clear hh
      by_cases hd : x1 < y1
      · skip
        refine wp_region_mixw (twoS g h a x0 x1 x2 x3 x4 y0 y1 y2 y3 y4) (.take 0 (.take 1 (.take 2 (.take 3 (.take 4 (.take 5 (.take 6 (.take 7 (.take 8 (.move 9 (.take 10 .done))))))))))) (by kernel_rfl) (by kernel_rfl) ?_ ?_
        · exact HS.out
        intro w1 hs1 hk1
        repeat (first
          | (refine mix_skip rfl (by rfl) ?_; try simp only [Act.put, List.setIfInBounds_toArray, List.set_cons_zero, List.set_cons_succ])
          | (refine mix_skipm rfl (by rfl) ?_; try simp only [Act.put, List.setIfInBounds_toArray, List.set_cons_zero, List.set_cons_succ])
          | (refine mix_take (v := ?_) rfl (by rfl) ?_ ?_; rotate_left; (· intro w' hSw; unfold twoS at hSw; go_simp; (try with_reducible rfl)); rotate_right; try simp only [Act.put, List.setIfInBounds_toArray, List.set_cons_zero, List.set_cons_succ]))
        refine mix_move rfl (fun K hK => ?_)
        go_simp
        go_at_fn f
        ((with_reducible refine (Hcl.out w1).mono ?_); rintro e w2 ⟨z, rfl, hz, hk2⟩; dsimp only)
        have hz' : z < 0 := hz.2 hd
        refine hK.out _ _ (by exact hs1.keep hk2 (by simp)) ?_
        clear hK K
        try simp only [Act.put, List.setIfInBounds_toArray, List.set_cons_zero, List.set_cons_succ]
        repeat (first
          | (refine mix_skip rfl (by rfl) ?_; try simp only [Act.put, List.setIfInBounds_toArray, List.set_cons_zero, List.set_cons_succ])
          | (refine mix_skipm rfl (by rfl) ?_; try simp only [Act.put, List.setIfInBounds_toArray, List.set_cons_zero, List.set_cons_succ])
          | (refine mix_take (v := ?_) rfl (by rfl) ?_ ?_; rotate_left; (· intro w' hSw; unfold twoS at hSw; go_simp; (try with_reducible rfl)); rotate_right; try simp only [Act.put, List.setIfInBounds_toArray, List.set_cons_zero, List.set_cons_succ]))
        refine mix_done ?_
        have hrow2 := (Hrow.out.keep hk1).keep hk2
        have hkw := (Hk.out.trans (hk1.mono (by simp))).trans (hk2.mono (by simp))
        have hb2 := Hbs.out.up Hmono.out hih hhj (by rw [Hxd.out, Hyd.out]; omega)
        clear hs1 hz
        have Hk1 := Lib.hid hk1; clear hk1; have Hk2 := Lib.hid hk2; clear hk2; have Hrow2 := Lib.hid hrow2; clear hrow2; have Hkw := Lib.hid hkw; clear hkw; have Hb2 := Lib.hid hb2; clear hb2
        go_wp2_with fail
        go_roundw
        case rel => exact ⟨h + 1, j, by go_num, rfl, Hb2.out, Hrow2.out, Hkw.out⟩
        case measure => simp [intOf]; omega
      · skip
        refine wp_region_mixw (twoS g h a x0 x1 x2 x3 x4 y0 y1 y2 y3 y4) (.take 0 (.take 1 (.take 2 (.take 3 (.take 4 (.take 5 (.take 6 (.take 7 (.take 8 (.move 9 (.take 10 .done))))))))))) (by kernel_rfl) (by kernel_rfl) ?_ ?_
        · exact HS.out
        intro w1 hs1 hk1
        repeat (first
          | (refine mix_skip rfl (by rfl) ?_; try simp only [Act.put, List.setIfInBounds_toArray, List.set_cons_zero, List.set_cons_succ])
          | (refine mix_skipm rfl (by rfl) ?_; try simp only [Act.put, List.setIfInBounds_toArray, List.set_cons_zero, List.set_cons_succ])
          | (refine mix_take (v := ?_) rfl (by rfl) ?_ ?_; rotate_left; (· intro w' hSw; unfold twoS at hSw; go_simp; (try with_reducible rfl)); rotate_right; try simp only [Act.put, List.setIfInBounds_toArray, List.set_cons_zero, List.set_cons_succ]))
        refine mix_move rfl (fun K hK => ?_)
        go_simp
        go_at_fn f
        ((with_reducible refine (Hcl.out w1).mono ?_); rintro e w2 ⟨z, rfl, hz, hk2⟩; dsimp only)
        have hz' : ¬ z < 0 := fun h => by have := hz.1 h; omega
        refine hK.out _ _ (by exact hs1.keep hk2 (by simp)) ?_
        clear hK K
        try simp only [Act.put, List.setIfInBounds_toArray, List.set_cons_zero, List.set_cons_succ]
        repeat (first
          | (refine mix_skip rfl (by rfl) ?_; try simp only [Act.put, List.setIfInBounds_toArray, List.set_cons_zero, List.set_cons_succ])
          | (refine mix_skipm rfl (by rfl) ?_; try simp only [Act.put, List.setIfInBounds_toArray, List.set_cons_zero, List.set_cons_succ])
          | (refine mix_take (v := ?_) rfl (by rfl) ?_ ?_; rotate_left; (· intro w' hSw; unfold twoS at hSw; go_simp; (try with_reducible rfl)); rotate_right; try simp only [Act.put, List.setIfInBounds_toArray, List.set_cons_zero, List.set_cons_succ]))
        refine mix_done ?_
        have hrow2 := (Hrow.out.keep hk1).keep hk2
        have hkw := (Hk.out.trans (hk1.mono (by simp))).trans (hk2.mono (by simp))
        have hb2 := Hbs.out.down Hmono.out hih hhj (by rw [Hxd.out, Hyd.out]; omega)
        clear hs1 hz
        have Hk1 := Lib.hid hk1; clear hk1; have Hk2 := Lib.hid hk2; clear hk2; have Hrow2 := Lib.hid hrow2; clear hrow2; have Hkw := Lib.hid hkw; clear hkw; have Hb2 := Lib.hid hb2; clear hb2
        go_wp2_with fail
        go_roundw
        case rel => exact ⟨i, h, rfl, rfl, Hb2.out, Hrow2.out, Hkw.out⟩
        case measure => simp [intOf]; omega
    · obtain rfl : j = i := by have := hbs.le; omega
      have hbhi := hbs.hi'
      have hblo := hbs.lo'
      obtain ⟨W1, hW1⟩ : ∃ x, x = wr := ⟨_, rfl⟩; subst hW1
      have Hbs := Lib.hid hbs; clear hbs; have Hrow := Lib.hid hrow; clear hrow; have Hk := Lib.hid hk; clear hk
      go_wp2
      go_loopw [13] (fun x wx => ∃ (k : Nat) (Y : List Ev), x = .int .i64 (k : Nat) ∧ a ≤ k ∧ k ≤ j - 1 ∧ Turned L Y a b ∧ dy Y k = dy L a ∧ (∀ t, a ≤ t → t < k → dy Y t = dy L (t + 1)) ∧ (∀ t, k < t → Y[t]? = L[t]?) ∧ RowE wx g n cap Y ∧ Keeps (fun i => i = g) w wx) (fun x _ => j - (intOf x).toNat)
      case atStart => exact ⟨a, L, rfl, Nat.le_refl _, by omega, Turned.refl _ _ _, rfl, fun t h1 h2 => by omega, fun _ _ => rfl, Hrow.out, Hk.out⟩
      case round =>
        obtain ⟨k, Y, rfl, hak, hkj, ht, e1, e2, e3, hrow, hk⟩ := hrel
        have hYn := hrow.2
        by_cases hlt : k < j - 1
        · have hltI : (k : Int) < (j : Int) - 1 := by omega
          obtain ⟨⟨x0, x1, x2, x3, x4⟩, hx⟩ := get_some (L := Y) (k := k) (by omega)
          obtain ⟨⟨y0, y1, y2, y3, y4⟩, hy⟩ := get_some (L := Y) (k := k + 1) (by omega)
          have hbel := Hbs.out.below (k + 1) (by omega) (by omega)
          have hd : dy Y (k + 1) < dy Y k := by rw [e1, dy_congr (e3 (k + 1) (by omega))]; omega
          have hstep := left_step (b := b) e1 e2 e3 hak (by omega)
          have htn := ht.trans (swp_turned (X := Y) (i := k) (a := a) (b := b) (by omega) (by omega) (by omega) hd)
          obtain ⟨c0, c1, c2, c3, c4⟩ := (hrow).cells hx
          obtain ⟨d0, d1, d2, d3, d4⟩ := (hrow).cells hy
          have fa0 : (wr).frozen? ⟨g, (k) * 5, none⟩ = false := (hrow).free _
          have fa1 : (wr).frozen? ⟨g, (k) * 5 + 1, none⟩ = false := (hrow).free _
          have fa2 : (wr).frozen? ⟨g, (k) * 5 + 2, none⟩ = false := (hrow).free _
          have fa3 : (wr).frozen? ⟨g, (k) * 5 + 3, none⟩ = false := (hrow).free _
          have fa4 : (wr).frozen? ⟨g, (k) * 5 + 4, none⟩ = false := (hrow).free _
          have fb0 : (wr).frozen? ⟨g, (k + 1) * 5, none⟩ = false := (hrow).free _
          have fb1 : (wr).frozen? ⟨g, (k + 1) * 5 + 1, none⟩ = false := (hrow).free _
          have fb2 : (wr).frozen? ⟨g, (k + 1) * 5 + 2, none⟩ = false := (hrow).free _
          have fb3 : (wr).frozen? ⟨g, (k + 1) * 5 + 3, none⟩ = false := (hrow).free _
          have fb4 : (wr).frozen? ⟨g, (k + 1) * 5 + 4, none⟩ = false := (hrow).free _
          have hrow3 := (hrow.swp hx hy).keep (Keeps.drew _)
          have hk3 := hk.same (((putE_keeps wr g k y0 y1 y2 y3 y4).same (putE_keeps _ g (k + 1) x0 x1 x2 x3 x4)).same (Keeps.drew _))
          unfold putE at hrow3 hk3
          have p0 : (0 : Int) ≤ (k : Int) + 1 := by omega
          have p1 : (k : Int) + 1 < (n : Int) := by omega
          have p2 : (k : Int) < (n : Int) := by omega
          have p3 : ((k : Int) + 1).toNat = k + 1 := by omega
          have Hrow := Lib.hid hrow; clear hrow; have Hk := Lib.hid hk; clear hk; have Hx := Lib.hid hx; clear hx; have Hy := Lib.hid hy; clear hy; have Hbel := Lib.hid hbel; clear hbel; have Hd := Lib.hid hd; clear hd; have Hstep := Lib.hid hstep; clear hstep; have Htn := Lib.hid htn; clear htn; have Ht := Lib.hid ht; clear ht; have E1 := Lib.hid e1; clear e1; have E2 := Lib.hid e2; clear e2; have E3 := Lib.hid e3; clear e3; have Hrow3 := Lib.hid hrow3; clear hrow3; have Hk3 := Lib.hid hk3; clear hk3
          go_wp2_with fail
          go_region
          all_goals go_wp2_with fail
          all_goals go_roundw
          case rel => exact ⟨k + 1, _, by go_num, by omega, by omega, Htn.out, Hstep.out.1, Hstep.out.2.1, Hstep.out.2.2, Hrow3.out, Hk3.out⟩
          case measure => simp [intOf]; omega
        · obtain rfl : k = j - 1 := by omega
          have hup : Upto Y a b := left_done e1 e2 e3 (by have := H1.out; rwa [← Hm.out] at this) (by have := Hbs.out; rwa [← Hm.out] at this)
          have hltI : ¬ ((j - 1 : Nat) : Int) < (j : Int) - 1 := by omega
          obtain ⟨k, hkk⟩ : ∃ k, j - 1 = k := ⟨_, rfl⟩
          rw [hkk] at hltI ⊢
          have Ht := Lib.hid ht; clear ht; have E1 := Lib.hid e1; clear e1; have E2 := Lib.hid e2; clear e2; have E3 := Lib.hid e3; clear e3; have Hrow := Lib.hid hrow; clear hrow; have Hk := Lib.hid hk; clear hk; have Hup := Lib.hid hup; clear hup
          go_wp2
          go_end0
          exact ⟨rfl, Y, Ht.out, Hup.out, Hrow.out, Hk.out⟩
end Go.Proofs.Ytelhlbplbkglkaa
