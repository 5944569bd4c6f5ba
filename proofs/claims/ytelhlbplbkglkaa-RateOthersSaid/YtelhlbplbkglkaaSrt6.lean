/- The walks of the library's stable sort at events: blocks; the whole. -/
import Derived.Test.YtelhlbplbkglkaaSrt5b
namespace Go.Proofs.Ytelhlbplbkglkaa
open Go.RowKit
theorem mergeEv_any (f : Nat) (ok : Ev → Prop) (hc : CmpBy f ok) : ∀ d, MergeAt f ok d
  | 0 => fun a m b n cap g L w hd _ h1 h2 _ _ _ _ _ => by omega
  | d + 1 => fun a m b n cap g L w hd hrow ham hmb hbn hok hn h1 h2 => by
    by_cases e1 : m = a + 1
    · subst e1; exact merge_left f ok hc a b n cap g L w hrow hmb hbn hok hn h2
    · by_cases e2 : b = m + 1
      · subst e2; exact merge_right f ok hc a m n cap g L w hrow (by omega) hbn hok hn h1
      · rcases Nat.lt_or_ge ((a + b) / 2) m with h | h
        · exact merge_mid1 f ok hc d (mergeEv_any f ok hc d) a m b n cap g L w hd hrow ham hmb e1 e2 hbn hok hn h1 h2 _ rfl h
        · exact merge_mid2 f ok hc d (mergeEv_any f ok hc d) a m b n cap g L w hd hrow ham hmb e1 e2 hbn hok hn h1 h2 _ rfl h
/-- Sorted by blocks of one size. -/
def Blk (s n : Nat) (X : List Ev) : Prop := ∀ t, Upto X (t * s) (min (t * s + s) n)
/-- Sorted by blocks, up to some number of them by blocks of twice the size. -/
structure BlkTo (s n k : Nat) (X : List Ev) : Prop where
  lo : ∀ t, t < k → Upto X (2 * (t * s)) (2 * (t * s) + 2 * s)
  hi : ∀ t, 2 * k ≤ t → Upto X (t * s) (min (t * s + s) n)
theorem Blk.to {s n : Nat} {X : List Ev} (h : Blk s n X) : BlkTo s n 0 X := ⟨fun t ht => by omega, fun t _ => h t⟩
theorem mul_mono {t k s : Nat} (h : t < k) : t * s + s ≤ k * s := by
  have := Nat.mul_le_mul_right s (show t + 1 ≤ k from h)
  rwa [Nat.succ_mul] at this
theorem two_mul' (k s : Nat) : 2 * k * s = 2 * (k * s) := Nat.mul_assoc 2 k s
theorem BlkTo.halves {s n k : Nat} {X : List Ev} (h : BlkTo s n k X) : Upto X (2 * (k * s)) (min (2 * (k * s) + s) n) ∧ Upto X (2 * (k * s) + s) (min (2 * (k * s) + s + s) n) := by
  have h1 := h.hi (2 * k) (Nat.le_refl _)
  have h2 := h.hi (2 * k + 1) (by omega)
  rw [two_mul'] at h1
  rw [Nat.succ_mul, two_mul'] at h2
  exact ⟨h1, h2⟩
theorem BlkTo.next {s n k : Nat} {X Y : List Ev} (h : BlkTo s n k X) (ht : Turned X Y (2 * (k * s)) (2 * (k * s) + 2 * s)) (hu : Upto Y (2 * (k * s)) (2 * (k * s) + 2 * s)) : BlkTo s n (k + 1) Y := by
  refine ⟨fun t hlt => ?_, fun t hge => ?_⟩
  · by_cases he : t = k
    · subst he; exact hu
    · have := mul_mono (s := s) (show t < k by omega)
      exact (h.lo t (by omega)).eq fun i h1 h2 => ht.out i (.inl (by omega))
  · have := mul_mono (s := s) (show 2 * k + 1 < t by omega)
    rw [Nat.succ_mul, two_mul'] at this
    exact (h.hi t (by omega)).eq fun i h1 h2 => ht.out i (.inr (by omega))
theorem BlkTo.done {s n k : Nat} {X Y : List Ev} (h : BlkTo s n k X) (h1 : 2 * (k * s) ≤ n) (h2 : n < 2 * (k * s) + 2 * s) (ht : Turned X Y (2 * (k * s)) n) (hu : Upto Y (2 * (k * s)) n) : Blk (2 * s) n Y := by
  intro t
  rw [show t * (2 * s) = 2 * (t * s) from Nat.mul_left_comm _ _ _]
  rcases Nat.lt_trichotomy t k with hk | hk | hk
  · have := mul_mono (s := s) hk
    exact ((h.lo t hk).sub (Nat.le_refl _) (Nat.min_le_left _ _)).eq fun i h3 h4 => ht.out i (.inl (by omega))
  · subst hk; exact hu.sub (Nat.le_refl _) (Nat.min_le_right _ _)
  · have := mul_mono (s := s) hk
    exact Upto.one (by have := Nat.min_le_right (2 * (t * s) + 2 * s) n; omega)
theorem Blk.all {s n : Nat} {X : List Ev} (h : Blk s n X) (hs : n ≤ s) : Upto X 0 n := by
  have := h 0
  rw [Nat.zero_mul, Nat.zero_add, Nat.min_eq_right hs] at this
  exact this
set_option maxRecDepth 100000 in
set_option maxHeartbeats 3200000 in
theorem stableEv_any (f : Nat) (ok : Ev → Prop) (hc : CmpBy f ok) (n cap g : Nat) (L : List Ev) (w : World) (h : RowE w g n cap L) (hok : ∀ x ∈ L, ok x) (hn : n ≤ 1000000) :
    Calls Try.prog 62 #[.slice (some ⟨g, 0, none⟩) n cap, .int .i64 n, .func (.func f) #[] #[]] w (MergePost L g n cap 0 n w) := by
  have hln := h.2
  have H := Lib.hid h; clear h; have Hok := Lib.hid hok; clear hok; have Hc := Lib.hid hc; clear hc
  go_enter Try.func62, Try.ntmps62
  go_wp2
  go_loopw [7, 8] (fun x y wx => ∃ (k : Nat) (X : List Ev), x = .int .i64 (20 * k : Nat) ∧ y = .int .i64 (20 * k + 20 : Nat) ∧ 20 * k ≤ n ∧ Turned L X 0 n ∧ (∀ t, t < k → Upto X (20 * t) (20 * t + 20)) ∧ RowE wx g n cap X ∧ Keeps (fun i => i = g) w wx) (fun x y _ => n + 20 - (intOf y).toNat)
  case atStart => exact ⟨0, L, rfl, rfl, by omega, Turned.refl _ _ _, fun t ht => by omega, H.out, Keeps.refl _ _⟩
  case round =>
    obtain ⟨k, X, rfl, rfl, hkn, ht, hb, hrow, hk⟩ := hrel
    obtain ⟨a, ha⟩ : ∃ a, 20 * k = a := ⟨_, rfl⟩
    obtain ⟨b, hb'⟩ : ∃ b, a + 20 = b := ⟨_, rfl⟩
    rw [ha, hb'] 
    rw [ha] at hkn
    by_cases hlt : b ≤ n
    · have hltI : (b : Int) ≤ (n : Int) := by omega
      have hins := inssEv_any f ok Hc.out a b n cap g X wr hrow (by omega) hlt (fun x hx => Hok.out x (ht.alike.mem hx)) hn
      have Ht := Lib.hid ht; clear ht; have Hb := Lib.hid hb; clear hb; have Hrow := Lib.hid hrow; clear hrow; have Hk := Lib.hid hk; clear hk; have Hins := Lib.hid hins; clear hins
      go_wp2_with (go_at_call 67; (with_reducible refine Hins.out.mono ?_); rintro e w1 ⟨rfl, Y, htY, huY, hrow1, hk1⟩; have HtY := Lib.hid htY; have HuY := Lib.hid huY; have Hrow1 := Lib.hid hrow1; have Hk1 := Lib.hid (Hk.out.same hk1); clear htY huY hrow1 hk1)
      go_roundw
      case rel =>
        refine ⟨k + 1, Y, by go_num, by go_num, by omega, Ht.out.trans (HtY.out.wide (Nat.zero_le _) hlt), fun t hk => ?_, Hrow1.out, Hk1.out⟩
        by_cases he : t = k
        · subst he; rw [show 20 * t + 20 = b by omega, ha]; exact HuY.out
        · exact (Hb.out t (by omega)).eq fun i h1 h2 => HtY.out.out i (.inl (by omega))
      case measure => simp [intOf]; omega
    · have hltI : ¬ (b : Int) ≤ (n : Int) := by omega
      have hins := inssEv_any f ok Hc.out a n n cap g X wr hrow hkn (Nat.le_refl _) (fun x hx => Hok.out x (ht.alike.mem hx)) hn
      have hblk : ∀ Y, Turned X Y a n → Upto Y a n → Blk 20 n Y := fun Y htY huY t => by
        rw [Nat.mul_comm t 20]
        rcases Nat.lt_trichotomy t k with h | h | h
        · exact ((hb t h).sub (Nat.le_refl _) (Nat.min_le_left _ _)).eq fun i h1 h2 => htY.out i (.inl (by omega))
        · subst h; rw [ha]; exact huY.sub (Nat.le_refl _) (Nat.min_le_right _ _)
        · exact Upto.one (by omega)
      have Ht := Lib.hid ht; clear ht; have Hb := Lib.hid hb; clear hb; have Hrow := Lib.hid hrow; clear hrow; have Hk := Lib.hid hk; clear hk; have Hins := Lib.hid hins; clear hins; have Hblk := Lib.hid hblk; clear hblk
      go_wp2_with (go_at_call 67; (with_reducible refine Hins.out.mono ?_); rintro e w1 ⟨rfl, Y, htY, huY, hrow1, hk1⟩; have HtY := Lib.hid (Ht.out.trans (htY.wide (Nat.zero_le _) (Nat.le_refl _))); have HbY := Lib.hid (Hblk.out Y htY huY); have Hrow1 := Lib.hid hrow1; have Hk1 := Lib.hid (Hk.out.same hk1); clear htY huY hrow1 hk1)
      clear Hblk Hins Hrow Hk Hb
      go_loopw [6] (fun x wx => ∃ (s : Nat) (X : List Ev), x = .int .i64 (s : Nat) ∧ 0 < s ∧ s ≤ 2 * n + 20 ∧ Turned L X 0 n ∧ Blk s n X ∧ RowE wx g n cap X ∧ Keeps (fun i => i = g) w wx) (fun x _ => 2 * n + 21 - (intOf x).toNat)
      case atStart => exact ⟨20, Y, rfl, by omega, by omega, HtY.out, HbY.out, Hrow1.out, Hk1.out⟩
      case round =>
        obtain ⟨s, X, rfl, hs0, hsn, ht, hb, hrow, hk⟩ := hrel
        obtain ⟨W1, hW1⟩ : ∃ x, x = wr := ⟨_, rfl⟩; subst hW1
        by_cases hlt : s < n
        · have hltI : (s : Int) < (n : Int) := by omega
          have hb0 := hb.to
          have Ht := Lib.hid ht; clear ht; have Hb := Lib.hid hb; clear hb; have Hrow := Lib.hid hrow; clear hrow; have Hk := Lib.hid hk; clear hk; have Hb0 := Lib.hid hb0; clear hb0
          go_wp2
          go_loopw [7, 8] (fun x y wx => ∃ (k a b : Nat) (X : List Ev), x = .int .i64 (a : Nat) ∧ y = .int .i64 (b : Nat) ∧ a = 2 * (k * s) ∧ b = a + 2 * s ∧ a ≤ n ∧ Turned L X 0 n ∧ BlkTo s n k X ∧ RowE wx g n cap X ∧ Keeps (fun i => i = g) w wx) (fun x y _ => n + 2 * s - (intOf y).toNat)
          case atStart => exact ⟨0, 0, 2 * s, X, by go_num, by go_num, by simp, by simp, by omega, Ht.out, Hb0.out, Hrow.out, Hk.out⟩
          case round =>
            obtain ⟨k, a, b, X, rfl, rfl, ha, hb', han, ht, hb, hrow, hk⟩ := hrel
            have hh := hb.halves
            rw [← ha] at hh
            by_cases hlt2 : b ≤ n
            · have hlt2I : (b : Int) ≤ (n : Int) := by omega
              obtain ⟨m, hm⟩ : ∃ m, a + s = m := ⟨_, rfl⟩
              have hmI : (a : Int) + s = m := by omega
              rw [Nat.min_eq_left (by omega), Nat.min_eq_left (by omega), hm] at hh
              have hmg := mergeEv_any f ok Hc.out (b - a) a m b n cap g X wr (Nat.le_refl _) hrow (by omega) (by omega) hlt2 (fun x hx => Hok.out x (ht.alike.mem hx)) hn hh.1 (by rw [show b = m + s by omega]; exact hh.2)
              have hne : ∀ Y, Turned X Y a b → Upto Y a b → BlkTo s n (k + 1) Y := fun Y h1 h2 => hb.next (by rw [← ha, ← hb']; exact h1) (by rw [← ha, ← hb']; exact h2)
              have hb2 : b = 2 * ((k + 1) * s) := by rw [Nat.succ_mul k s]; omega
              have Ht := Lib.hid ht; clear ht; have Hb := Lib.hid hb; clear hb; have Hrow := Lib.hid hrow; clear hrow; have Hk := Lib.hid hk; clear hk; have Hmg := Lib.hid hmg; clear hmg; have Hne := Lib.hid hne; clear hne; have Hb2 := Lib.hid hb2; clear hb2; have Hh := Lib.hid hh; clear hh; have Ha := Lib.hid ha; clear ha; have Hm := Lib.hid hm; clear hm; have Hb' := Lib.hid hb'; clear hb'
              go_wp2_with (go_at_call 68; (with_reducible refine Hmg.out.mono ?_); rintro e w2 ⟨rfl, Y, htY, huY, hrow2, hk2⟩; have HtY := Lib.hid htY; have HbY := Lib.hid (Hne.out Y htY huY); have Hrow2 := Lib.hid hrow2; have Hk2 := Lib.hid (Hk.out.same hk2); clear htY huY hrow2 hk2)
              go_roundw
              case rel => exact ⟨k + 1, b, b + 2 * s, Y, by go_num, by go_num, Hb2.out, rfl, hlt2, Ht.out.trans (HtY.out.wide (Nat.zero_le _) hlt2), HbY.out, Hrow2.out, Hk2.out⟩
              case measure => simp [intOf]; omega
            · have hlt2I : ¬ (b : Int) ≤ (n : Int) := by omega
              have hdn : ∀ Y, Turned X Y a n → Upto Y a n → Blk (2 * s) n Y := fun Y h1 h2 => hb.done (by omega) (by omega) (by rw [← ha]; exact h1) (by rw [← ha]; exact h2)
              by_cases hlt3 : a + s < n
              · obtain ⟨m, hm⟩ : ∃ m, a + s = m := ⟨_, rfl⟩
                have hmI : (a : Int) + s = m := by omega
                have hmnI : (m : Int) < n := by omega
                rw [Nat.min_eq_left (by omega), Nat.min_eq_right (by omega), hm] at hh
                have hmg := mergeEv_any f ok Hc.out (n - a) a m n n cap g X wr (Nat.le_refl _) hrow (by omega) (by omega) (Nat.le_refl _) (fun x hx => Hok.out x (ht.alike.mem hx)) hn hh.1 hh.2
                have Ht := Lib.hid ht; clear ht; have Hb := Lib.hid hb; clear hb; have Hrow := Lib.hid hrow; clear hrow; have Hk := Lib.hid hk; clear hk; have Hmg := Lib.hid hmg; clear hmg; have Hdn := Lib.hid hdn; clear hdn; have Hh := Lib.hid hh; clear hh; have Ha := Lib.hid ha; clear ha; have Hm := Lib.hid hm; clear hm; have Hb' := Lib.hid hb'; clear hb'
                go_wp2_with (go_at_call 68; (with_reducible refine Hmg.out.mono ?_); rintro e w2 ⟨rfl, Y, htY, huY, hrow2, hk2⟩; have HtY := Lib.hid htY; have HbY := Lib.hid (Hdn.out Y htY huY); have Hrow2 := Lib.hid hrow2; have Hk2 := Lib.hid (Hk.out.same hk2); clear htY huY hrow2 hk2)
                go_roundw
                case rel => exact ⟨2 * s, Y, by go_num, by omega, by omega, Ht.out.trans (HtY.out.wide (Nat.zero_le _) (Nat.le_refl _)), HbY.out, Hrow2.out, Hk2.out⟩
                case measure => simp [intOf]; omega
              · have hlt3I : ¬ (a : Int) + s < n := by omega
                have hfin := hdn X (Turned.refl _ _ _) (by have := hh.1; rwa [Nat.min_eq_right (by omega)] at this)
                have Ht := Lib.hid ht; clear ht; have Hb := Lib.hid hb; clear hb; have Hrow := Lib.hid hrow; clear hrow; have Hk := Lib.hid hk; clear hk; have Hdn := Lib.hid hdn; clear hdn; have Hh := Lib.hid hh; clear hh; have Ha := Lib.hid ha; clear ha; have Hfin := Lib.hid hfin; clear hfin; have Hb' := Lib.hid hb'; clear hb'
                go_wp2
                go_roundw
                case rel => exact ⟨2 * s, X, by go_num, by omega, by omega, Ht.out, Hfin.out, Hrow.out, Hk.out⟩
                case measure => simp [intOf]; omega
        · have hltI : ¬ (s : Int) < (n : Int) := by omega
          have hup := hb.all (by omega)
          have Ht := Lib.hid ht; clear ht; have Hb := Lib.hid hb; clear hb; have Hrow := Lib.hid hrow; clear hrow; have Hk := Lib.hid hk; clear hk; have Hup := Lib.hid hup; clear hup
          go_wp2
          go_end0
          exact ⟨rfl, X, Ht.out, Hup.out, Hrow.out, Hk.out⟩
end Go.Proofs.Ytelhlbplbkglkaa
