/- PageBack: what is packed is taken; what is taken, packed again, is the same bytes; a beginning is too short. -/
import Derived.Test.YthokcmbgamanbaaPage8
namespace Go.Proofs.Ythokcmbgamanbaa
open Go.RowKit
theorem umod (x n : Int) (h0 : 0 < n) (h1 : n ≤ 1000000000000) : ∃ k : Nat, (k : Int) < n ∧ wrap64 ((IntKind.u64.wrap x).tmod n) = k := by
  have h2 : 0 ≤ IntKind.u64.wrap x := by simp [IntKind.wrap, IntKind.signed, IntKind.bits]; omega
  have e1 : (IntKind.u64.wrap x).tmod n = IntKind.u64.wrap x % n := Int.tmod_eq_emod_of_nonneg h2
  have e2 : 0 ≤ IntKind.u64.wrap x % n := Int.emod_nonneg _ (by omega)
  have e3 : IntKind.u64.wrap x % n < n := Int.emod_lt_of_pos _ h0
  refine ⟨(IntKind.u64.wrap x % n).toNat, by omega, ?_⟩
  rw [e1]
  generalize IntKind.u64.wrap x % n = m at *
  unfold wrap64
  omega
theorem pageTake_at {w : World} {ad : Option Addr} {cap n : Nat} {X : List Int} (hr : Reads w 1 (.slice ad n cap) n (X.flatMap u8c)) (hn : X.length = n) (hX : ∀ z ∈ X, 0 ≤ z ∧ z ≤ 255) (hl : n ≤ 1000000) {s : Stm} {err : Int} (hs : takeStm X = s) (he : takeErr X = err) :
    Calls Try.prog 20 #[.slice ad n cap] w fun e w' => ∃ ad' cap', e = .returned (.tuple #[.agg #[.int .i64 s.cycle, .int .i64 s.fr, .int .i64 s.to, .int .i64 s.due, .slice ad' s.lines.length cap', .int .i64 s.total, .int .i64 s.credit, .int .i64 s.min, .bool s.grace], .int .i64 err]) ∧
      Reads w' 3 (.slice ad' s.lines.length cap') s.lines.length (s.lines.flatMap Ln.cells) ∧ Keeps (fun _ => False) w w' := by
  subst hn hs he
  refine (pageTake_any ad cap X w hr hX hl).mono ?_
  rintro e w' ⟨v, rfl, hrow, _, hk⟩
  obtain ⟨ad', cap', rfl, _, _⟩ := ownsRow_shape hrow
  exact ⟨ad', cap', rfl, Reads.of_owns hrow, hk⟩
theorem pagePack_at {w : World} {s : Stm} {ad : Option Addr} {cap n : Nat} (hr : Reads w 3 (.slice ad s.lines.length cap) s.lines.length (s.lines.flatMap Ln.cells)) (hl : s.lines.length ≤ 1000000) {X : List Int} {err : Int} (hX : packB s = X) (he : packErr s = err) (hn : X.length = n) :
    Calls Try.prog 18 #[.agg #[.int .i64 s.cycle, .int .i64 s.fr, .int .i64 s.to, .int .i64 s.due, .slice ad s.lines.length cap, .int .i64 s.total, .int .i64 s.credit, .int .i64 s.min, .bool s.grace]] w fun e w' => ∃ ad' cap', e = .returned (.tuple #[.slice ad' n cap', .int .i64 err]) ∧ Reads w' 1 (.slice ad' n cap') n (X.flatMap u8c) ∧ n ≤ cap' ∧ Keeps (fun _ => False) w w' := by
  subst hX he hn
  refine (pagePack_any s ad cap w hr hl).mono ?_
  rintro e w' ⟨v, rfl, hf⟩
  have hrow := hf.row
  obtain ⟨ad', cap', rfl, hc, _⟩ := ownsRow_shape hrow
  exact ⟨ad', cap', rfl, Reads.of_owns hrow, hc, hf.kp⟩
theorem rpageRight_at {w : World} {s : Stm} {ad : Option Addr} {cap : Nat} (hr : Reads w 3 (.slice ad s.lines.length cap) s.lines.length (s.lines.flatMap Ln.cells)) (hl : s.lines.length ≤ 1000000) {b : Bool} (hb : s.rightB = b) :
    Calls Try.prog 19 #[.agg #[.int .i64 s.cycle, .int .i64 s.fr, .int .i64 s.to, .int .i64 s.due, .slice ad s.lines.length cap, .int .i64 s.total, .int .i64 s.credit, .int .i64 s.min, .bool s.grace]] w fun e w' => e = .returned (.bool b) ∧ Keeps (fun _ => False) w w' := by
  subst hb; exact rpageRight_any s ad cap w hr hl
theorem sameStm_at {w : World} {s : Stm} {v1 v2 : Value} (h1 : Reads w 3 v1 s.lines.length (s.lines.flatMap Ln.cells)) (h2 : Reads w 3 v2 s.lines.length (s.lines.flatMap Ln.cells)) (hl : s.lines.length ≤ 1000000) :
    Calls Try.prog 21 #[.agg #[.int .i64 s.cycle, .int .i64 s.fr, .int .i64 s.to, .int .i64 s.due, v1, .int .i64 s.total, .int .i64 s.credit, .int .i64 s.min, .bool s.grace], .agg #[.int .i64 s.cycle, .int .i64 s.fr, .int .i64 s.to, .int .i64 s.due, v2, .int .i64 s.total, .int .i64 s.credit, .int .i64 s.min, .bool s.grace]] w fun e w' => e = .returned (.bool true) ∧ Keeps (fun _ => False) w w' :=
  sameStm_any s v1 v2 w h1 h2 (by omega)
theorem packB_bytes (s : Stm) : ∀ z ∈ packB s, 0 ≤ z ∧ z ≤ 255 := by
  intro z hz
  unfold packB at hz
  split at hz
  · obtain ⟨x, _, hx⟩ := List.mem_flatMap.1 hz
    exact eight_bytes x z hx
  · simp at hz
theorem packB_length (s : Stm) : (packB s).length ≤ 264 := by
  unfold packB
  split
  · rename_i h
    have := (Stm.right_of h).len
    rw [packN_length, Stm.nums_length]; omega
  · simp
/-- The worlds of the law's walk: what was there stays, and the statement's own block. -/
structure BW (s : Stm) (v : Value) (w W : World) : Prop where
  kp : Keeps (fun _ => False) w W
  blk : W.heap[w.heap.size]? = some (.cells #[.int .i64 s.cycle, .int .i64 s.fr, .int .i64 s.to, .int .i64 s.due, v, .int .i64 s.total, .int .i64 s.credit, .int .i64 s.min, .bool s.grace] 44 (0, 0))
theorem BW.step {s : Stm} {v : Value} {w W W' : World} (h : BW s v w W) (hk : Keeps (fun _ => False) W W') : BW s v w W' := ⟨h.kp.none_trans hk, box_old h.blk hk (by simp)⟩
theorem BW.start {s : Stm} {v : Value} {w W : World} (hk : Keeps (fun _ => False) (w.alloc (.cells #[.int .i64 s.cycle, .int .i64 s.fr, .int .i64 s.to, .int .i64 s.due, v, .int .i64 s.total, .int .i64 s.credit, .int .i64 s.min, .bool s.grace] 44)) W) : BW s v w W := ⟨(Keeps.alloc _ _).none_trans hk, box_new hk (by simp)⟩
set_option maxRecDepth 100000 in
set_option maxHeartbeats 800000 in
theorem pageBack_awake (s : Stm) (w : World) (ad : Option Addr) (cap : Nat) (adb : Option Addr) (capb nb : Nat) (cut : Int) (h : 30 < s.lines.length ∨ 800 < nb) :
    Calls Try.prog 5 #[.agg #[.int .i64 s.cycle, .int .i64 s.fr, .int .i64 s.to, .int .i64 s.due, .slice ad s.lines.length cap, .int .i64 s.total, .int .i64 s.credit, .int .i64 s.min, .bool s.grace], .slice adb nb capb, .int .i64 cut] w fun e w' => e = .returned (.bool true) ∧ Below w.heap.size w w' := by
  obtain ⟨n, hn⟩ : ∃ n, s.lines.length = n := ⟨_, rfl⟩
  rw [hn] at h ⊢
  rcases (show 30 < n ∨ (¬ 30 < n ∧ 800 < nb) by omega) with h | ⟨h, h'⟩
  all_goals
    go_enter Try.func5, Try.ntmps5
    go_wp2_with (go_at_call 17; refine (awake20_any _).mono ?_; rintro e w1 ⟨rfl, hk⟩; have Hk := Lib.hid hk; clear hk)
    go_ret
    exact ⟨rfl, Keeps.below (S := fun _ => False) ((Keeps.alloc _ _).none_trans Hk.out) (by simp) (Nat.le_refl _)⟩
set_option maxRecDepth 100000 in
set_option maxHeartbeats 6400000 in
theorem pageBack_walk (w : World) (s : Stm) (ad : Option Addr) (cap : Nat) (hr : Reads w 3 (.slice ad s.lines.length cap) s.lines.length (s.lines.flatMap Ln.cells)) (hm : s.lines.length ≤ maxLen)
    (adb : Option Addr) (capb : Nat) (B : List Int) (hrb : Reads w 1 (.slice adb B.length capb) B.length (B.flatMap fun z => [Value.int .u8 z])) (hpb : ∀ a ∈ B, (Lit.int .u8 a).wf = true) (hmb : B.length ≤ maxLen) (cut : Int) (hcut : (Lit.int .i64 cut).wf = true) :
    Calls Try.prog 5 #[.agg #[.int .i64 s.cycle, .int .i64 s.fr, .int .i64 s.to, .int .i64 s.due, .slice ad s.lines.length cap, .int .i64 s.total, .int .i64 s.credit, .int .i64 s.min, .bool s.grace], .slice adb B.length capb, .int .i64 cut] w fun e w' => e = .returned (.bool true) ∧ Below w.heap.size w w' := by
  by_cases hg : 30 < s.lines.length ∨ 800 < B.length
  · exact pageBack_awake s w ad cap adb capb B.length cut hg
  have hl30 : s.lines.length ≤ 30 := by omega
  have hB8 : B.length ≤ 800 := by omega
  have hB : ∀ z ∈ B, 0 ≤ z ∧ z ≤ 255 := fun z hz => wf_u8 (hpb z hz)
  have hrb' : Reads w 1 (.slice adb B.length capb) B.length (B.flatMap u8c) := hrb
  clear hm hmb hg
  obtain ⟨X, hX⟩ : ∃ X, packB s = X := ⟨_, rfl⟩
  obtain ⟨n, hn⟩ : ∃ n, X.length = n := ⟨_, rfl⟩
  have hn264 : n ≤ 264 := by rw [← hn, ← hX]; exact packB_length s
  have hXb : ∀ z ∈ X, 0 ≤ z ∧ z ≤ 255 := by rw [← hX]; exact packB_bytes s
  obtain ⟨z, h, i, Y, m, hz, hh, hi, hY, hm, hzl, hcase⟩ : ∃ (z : Stm) (h i : Int) (Y : List Int) (m : Nat), takeStm B = z ∧ takeErr B = h ∧ packErr z = i ∧ packB z = Y ∧ Y.length = m ∧ z.lines.length ≤ 8 ∧ ((h = 0 ∧ i = 0 ∧ Y = B ∧ m = B.length) ∨ h = 3 ∨ h = 4) := by
    refine ⟨_, _, _, _, _, rfl, rfl, rfl, rfl, rfl, ?_, ?_⟩
    · by_cases h0 : takeErr B = 0
      · exact (Stm.right_of (pack_take hB h0).1).len.2
      · rw [takeStm, if_neg h0]; exact Nat.zero_le _
    · by_cases h0 : takeErr B = 0
      · have hp := pack_take hB h0
        have hY : packB (takeStm B) = B := by unfold packB; rw [if_pos hp.1]; exact hp.2
        refine .inl ⟨h0, by unfold packErr; rw [if_pos hp.1], hY, by rw [hY]⟩
      · right
        have hd : ∀ x, takeErr B = x → x = 0 ∨ x = 3 ∨ x = 4 := fun x hx => by
          subst hx; unfold takeErr
          split; · omega
          split; · omega
          split; · omega
          split; · omega
          split; · omega
          split <;> omega
        have := hd _ rfl; omega
  have hrY : ∀ (W : World) (v : Value) (k : Nat), Y = B → Reads W 1 v k (Y.flatMap u8c) → Reads W 1 v k (B.flatMap u8c) := fun W v k e hr => by subst e; exact hr
  rcases hw : s.rightB with _ | _
  · have he : packErr s = 4 := by unfold packErr; rw [hw]; rfl
    rcases hcase with ⟨rfl, rfl, hYB, rfl⟩ | rfl | rfl
    · have HYB := Lib.hid hYB; clear hYB
      have Hr := Lib.hid hr; clear hr; have Hrb := Lib.hid hrb; clear hrb; have Hpb := Lib.hid hpb; clear hpb; have Hcut := Lib.hid hcut; clear hcut; have HB := Lib.hid hB; clear hB; have Hrb' := Lib.hid hrb'; clear hrb'; have HX := Lib.hid hX; clear hX; have Hn := Lib.hid hn; clear hn; have HXb := Lib.hid hXb; clear hXb; have Hz := Lib.hid hz; clear hz; have Hh := Lib.hid hh; clear hh; have Hi := Lib.hid hi; clear hi; have HY := Lib.hid hY; clear hY; have Hm := Lib.hid hm; clear hm; have Hw := Lib.hid hw; clear hw; have He := Lib.hid he; clear he; have HrY := Lib.hid hrY; clear hrY
      go_enter Try.func5, Try.ntmps5
      go_wp2_with fail
      refine (pagePack_at (Hr.out.alloc _) (by omega) HX.out He.out Hn.out).mono ?_
      rintro e w1 ⟨ad1, cap1, rfl, hr1, hc1, hk1⟩
      have HA := Lib.hid (BW.start hk1)
      have Hr1 := Lib.hid hr1; clear hr1
      clear hk1
      go_wp2_with fail
      refine (awake20_any _).mono ?_
      rintro e w2 ⟨rfl, hk2⟩
      have HB2 := Lib.hid (HA.out.step hk2)
      have Hr2 := Lib.hid (Hr1.out.keeps hk2 (by simp))
      clear hk2
      have b0 := cell_of_cells HB2.out.blk 0
      have b1 := cell_of_cells HB2.out.blk 1
      have b2 := cell_of_cells HB2.out.blk 2
      have b3 := cell_of_cells HB2.out.blk 3
      have b4 := cell_of_cells HB2.out.blk 4
      have b5 := cell_of_cells HB2.out.blk 5
      have b6 := cell_of_cells HB2.out.blk 6
      have b7 := cell_of_cells HB2.out.blk 7
      have b8 := cell_of_cells HB2.out.blk 8
      have bl := lt_of_block HB2.out.blk
      go_wp2_with fail
      refine (rpageRight_at (Hr.out.keeps HB2.out.kp (by simp)) (by omega) Hw.out).mono ?_
      rintro e wD ⟨rfl, hk3⟩
      have HD := Lib.hid (HB2.out.step hk3)
      have Hr3 := Lib.hid (Hr2.out.keeps hk3 (by simp))
      clear hk3 b0 b1 b2 b3 b4 b5 b6 b7 b8 bl
      go_wp2_with fail
      refine (pageTake_at (Hrb'.out.keeps HD.out.kp (by simp)) rfl HB.out (by omega) Hz.out Hh.out).mono ?_
      rintro e wt ⟨adt, capt, rfl, hrt, hkt⟩
      have HT := Lib.hid (HD.out.step hkt)
      have Hrt := Lib.hid hrt; clear hrt
      clear hkt
      go_wp2_with fail
      refine (pagePack_at (Hrt.out.alloc _) (by omega) HY.out Hi.out Hm.out).mono ?_
      rintro e wu ⟨adu, capu, rfl, hru, hcu, hku⟩
      have HU := Lib.hid (HT.out.step ((Keeps.alloc _ _).none_trans hku))
      have Hru := Lib.hid hru; clear hru
      clear hku
      go_wp2_with (go_at_call 22; refine (helpBytes_eq B _ _ _ (HrY.out _ _ _ HYB.out Hru.out) (Hrb'.out.keeps HU.out.kp (by simp))).mono ?_; rintro e wv ⟨rfl, rfl⟩)
      go_ret
      exact ⟨rfl, HU.out.kp.below (by simp) (Nat.le_refl _)⟩
    ·
      have Hr := Lib.hid hr; clear hr; have Hrb := Lib.hid hrb; clear hrb; have Hpb := Lib.hid hpb; clear hpb; have Hcut := Lib.hid hcut; clear hcut; have HB := Lib.hid hB; clear hB; have Hrb' := Lib.hid hrb'; clear hrb'; have HX := Lib.hid hX; clear hX; have Hn := Lib.hid hn; clear hn; have HXb := Lib.hid hXb; clear hXb; have Hz := Lib.hid hz; clear hz; have Hh := Lib.hid hh; clear hh; have Hi := Lib.hid hi; clear hi; have HY := Lib.hid hY; clear hY; have Hm := Lib.hid hm; clear hm; have Hw := Lib.hid hw; clear hw; have He := Lib.hid he; clear he; have HrY := Lib.hid hrY; clear hrY
      go_enter Try.func5, Try.ntmps5
      go_wp2_with fail
      refine (pagePack_at (Hr.out.alloc _) (by omega) HX.out He.out Hn.out).mono ?_
      rintro e w1 ⟨ad1, cap1, rfl, hr1, hc1, hk1⟩
      have HA := Lib.hid (BW.start hk1)
      have Hr1 := Lib.hid hr1; clear hr1
      clear hk1
      go_wp2_with fail
      refine (awake20_any _).mono ?_
      rintro e w2 ⟨rfl, hk2⟩
      have HB2 := Lib.hid (HA.out.step hk2)
      have Hr2 := Lib.hid (Hr1.out.keeps hk2 (by simp))
      clear hk2
      have b0 := cell_of_cells HB2.out.blk 0
      have b1 := cell_of_cells HB2.out.blk 1
      have b2 := cell_of_cells HB2.out.blk 2
      have b3 := cell_of_cells HB2.out.blk 3
      have b4 := cell_of_cells HB2.out.blk 4
      have b5 := cell_of_cells HB2.out.blk 5
      have b6 := cell_of_cells HB2.out.blk 6
      have b7 := cell_of_cells HB2.out.blk 7
      have b8 := cell_of_cells HB2.out.blk 8
      have bl := lt_of_block HB2.out.blk
      go_wp2_with fail
      refine (rpageRight_at (Hr.out.keeps HB2.out.kp (by simp)) (by omega) Hw.out).mono ?_
      rintro e wD ⟨rfl, hk3⟩
      have HD := Lib.hid (HB2.out.step hk3)
      have Hr3 := Lib.hid (Hr2.out.keeps hk3 (by simp))
      clear hk3 b0 b1 b2 b3 b4 b5 b6 b7 b8 bl
      go_wp2_with fail
      refine (pageTake_at (Hrb'.out.keeps HD.out.kp (by simp)) rfl HB.out (by omega) Hz.out Hh.out).mono ?_
      rintro e wt ⟨adt, capt, rfl, hrt, hkt⟩
      have HT := Lib.hid (HD.out.step hkt)
      have Hrt := Lib.hid hrt; clear hrt
      clear hkt
      go_wp2_with fail
      refine (pagePack_at (Hrt.out.alloc _) (by omega) HY.out Hi.out Hm.out).mono ?_
      rintro e wu ⟨adu, capu, rfl, hru, hcu, hku⟩
      have HU := Lib.hid (HT.out.step ((Keeps.alloc _ _).none_trans hku))
      have Hru := Lib.hid hru; clear hru
      clear hku
      go_wp2
      go_ret
      exact ⟨rfl, HU.out.kp.below (by simp) (Nat.le_refl _)⟩
    ·
      have Hr := Lib.hid hr; clear hr; have Hrb := Lib.hid hrb; clear hrb; have Hpb := Lib.hid hpb; clear hpb; have Hcut := Lib.hid hcut; clear hcut; have HB := Lib.hid hB; clear hB; have Hrb' := Lib.hid hrb'; clear hrb'; have HX := Lib.hid hX; clear hX; have Hn := Lib.hid hn; clear hn; have HXb := Lib.hid hXb; clear hXb; have Hz := Lib.hid hz; clear hz; have Hh := Lib.hid hh; clear hh; have Hi := Lib.hid hi; clear hi; have HY := Lib.hid hY; clear hY; have Hm := Lib.hid hm; clear hm; have Hw := Lib.hid hw; clear hw; have He := Lib.hid he; clear he; have HrY := Lib.hid hrY; clear hrY
      go_enter Try.func5, Try.ntmps5
      go_wp2_with fail
      refine (pagePack_at (Hr.out.alloc _) (by omega) HX.out He.out Hn.out).mono ?_
      rintro e w1 ⟨ad1, cap1, rfl, hr1, hc1, hk1⟩
      have HA := Lib.hid (BW.start hk1)
      have Hr1 := Lib.hid hr1; clear hr1
      clear hk1
      go_wp2_with fail
      refine (awake20_any _).mono ?_
      rintro e w2 ⟨rfl, hk2⟩
      have HB2 := Lib.hid (HA.out.step hk2)
      have Hr2 := Lib.hid (Hr1.out.keeps hk2 (by simp))
      clear hk2
      have b0 := cell_of_cells HB2.out.blk 0
      have b1 := cell_of_cells HB2.out.blk 1
      have b2 := cell_of_cells HB2.out.blk 2
      have b3 := cell_of_cells HB2.out.blk 3
      have b4 := cell_of_cells HB2.out.blk 4
      have b5 := cell_of_cells HB2.out.blk 5
      have b6 := cell_of_cells HB2.out.blk 6
      have b7 := cell_of_cells HB2.out.blk 7
      have b8 := cell_of_cells HB2.out.blk 8
      have bl := lt_of_block HB2.out.blk
      go_wp2_with fail
      refine (rpageRight_at (Hr.out.keeps HB2.out.kp (by simp)) (by omega) Hw.out).mono ?_
      rintro e wD ⟨rfl, hk3⟩
      have HD := Lib.hid (HB2.out.step hk3)
      have Hr3 := Lib.hid (Hr2.out.keeps hk3 (by simp))
      clear hk3 b0 b1 b2 b3 b4 b5 b6 b7 b8 bl
      go_wp2_with fail
      refine (pageTake_at (Hrb'.out.keeps HD.out.kp (by simp)) rfl HB.out (by omega) Hz.out Hh.out).mono ?_
      rintro e wt ⟨adt, capt, rfl, hrt, hkt⟩
      have HT := Lib.hid (HD.out.step hkt)
      have Hrt := Lib.hid hrt; clear hrt
      clear hkt
      go_wp2_with fail
      refine (pagePack_at (Hrt.out.alloc _) (by omega) HY.out Hi.out Hm.out).mono ?_
      rintro e wu ⟨adu, capu, rfl, hru, hcu, hku⟩
      have HU := Lib.hid (HT.out.step ((Keeps.alloc _ _).none_trans hku))
      have Hru := Lib.hid hru; clear hru
      clear hku
      go_wp2
      go_ret
      exact ⟨rfl, HU.out.kp.below (by simp) (Nat.le_refl _)⟩
  · have he : packErr s = 0 := by unfold packErr; rw [hw]; rfl
    have hXe : X = packN s.nums := by rw [← hX, packB, if_pos hw]
    have htk := take_pack hw
    rw [← hXe] at htk
    have hn72 : 72 ≤ n := by rw [← hn, hXe, packN_length, Stm.nums_length]; omega
    obtain ⟨k, hk, hkeq⟩ := umod cut n (by omega) (by omega)
    have hkn : k < n := by omega
    have hsh : takeErr (X.take k) = 3 := by rw [hXe]; exact take_short hw (by rw [← hXe, hn]; exact hkn)
    have hst : takeStm (X.take k) = stm0 := by unfold takeStm; rw [if_neg (by omega)]
    have hXk : ∀ z ∈ X.take k, 0 ≤ z ∧ z ≤ 255 := fun z hz => hXb z (List.mem_of_mem_take hz)
    have hkl : (X.take k).length = k := by rw [List.length_take]; omega
    have hnw : IntKind.u64.wrap (n : Int) = (n : Int) := by simp [IntKind.wrap, IntKind.signed, IntKind.bits]; omega
    have Htk := Lib.hid htk; clear htk; have HXe := Lib.hid hXe; clear hXe; have Hsh := Lib.hid hsh; clear hsh; have Hst := Lib.hid hst; clear hst; have HXk := Lib.hid hXk; clear hXk; have Hkl := Lib.hid hkl; clear hkl
    clear hk
    rcases hcase with ⟨rfl, rfl, hYB, rfl⟩ | rfl | rfl
    · have HYB := Lib.hid hYB; clear hYB
      have Hr := Lib.hid hr; clear hr; have Hrb := Lib.hid hrb; clear hrb; have Hpb := Lib.hid hpb; clear hpb; have Hcut := Lib.hid hcut; clear hcut; have HB := Lib.hid hB; clear hB; have Hrb' := Lib.hid hrb'; clear hrb'; have HX := Lib.hid hX; clear hX; have Hn := Lib.hid hn; clear hn; have HXb := Lib.hid hXb; clear hXb; have Hz := Lib.hid hz; clear hz; have Hh := Lib.hid hh; clear hh; have Hi := Lib.hid hi; clear hi; have HY := Lib.hid hY; clear hY; have Hm := Lib.hid hm; clear hm; have Hw := Lib.hid hw; clear hw; have He := Lib.hid he; clear he; have HrY := Lib.hid hrY; clear hrY
      go_enter Try.func5, Try.ntmps5
      go_wp2_with fail
      refine (pagePack_at (Hr.out.alloc _) (by omega) HX.out He.out Hn.out).mono ?_
      rintro e w1 ⟨ad1, cap1, rfl, hr1, hc1, hk1⟩
      have HA := Lib.hid (BW.start hk1)
      have Hr1 := Lib.hid hr1; clear hr1
      clear hk1
      go_wp2_with fail
      refine (awake20_any _).mono ?_
      rintro e w2 ⟨rfl, hk2⟩
      have HB2 := Lib.hid (HA.out.step hk2)
      have Hr2 := Lib.hid (Hr1.out.keeps hk2 (by simp))
      clear hk2
      have b0 := cell_of_cells HB2.out.blk 0
      have b1 := cell_of_cells HB2.out.blk 1
      have b2 := cell_of_cells HB2.out.blk 2
      have b3 := cell_of_cells HB2.out.blk 3
      have b4 := cell_of_cells HB2.out.blk 4
      have b5 := cell_of_cells HB2.out.blk 5
      have b6 := cell_of_cells HB2.out.blk 6
      have b7 := cell_of_cells HB2.out.blk 7
      have b8 := cell_of_cells HB2.out.blk 8
      have bl := lt_of_block HB2.out.blk
      go_wp2_with fail
      refine (rpageRight_at (Hr.out.keeps HB2.out.kp (by simp)) (by omega) Hw.out).mono ?_
      rintro e wD ⟨rfl, hk3⟩
      have HD := Lib.hid (HB2.out.step hk3)
      have Hr3 := Lib.hid (Hr2.out.keeps hk3 (by simp))
      clear hk3 b0 b1 b2 b3 b4 b5 b6 b7 b8 bl
      go_wp2_with fail
      refine (pageTake_at Hr3.out Hn.out HXb.out (by omega) Htk.out.2 Htk.out.1).mono ?_
      rintro e wy ⟨ady, capy, rfl, hry, hky⟩
      have HY3 := Lib.hid (HD.out.step hky)
      have Hr4 := Lib.hid (Hr3.out.keeps hky (by simp))
      have HY4 := Lib.hid (HY3.out.step (Keeps.alloc _ (.cells #[.int .i64 s.cycle, .int .i64 s.fr, .int .i64 s.to, .int .i64 s.due, .slice ady s.lines.length capy, .int .i64 s.total, .int .i64 s.credit, .int .i64 s.min, .bool s.grace] 44)))
      have Hry := Lib.hid hry; clear hry
      clear hky
      have b0 := cell_of_cells HY3.out.blk 0
      have b1 := cell_of_cells HY3.out.blk 1
      have b2 := cell_of_cells HY3.out.blk 2
      have b3 := cell_of_cells HY3.out.blk 3
      have b4 := cell_of_cells HY3.out.blk 4
      have b5 := cell_of_cells HY3.out.blk 5
      have b6 := cell_of_cells HY3.out.blk 6
      have b7 := cell_of_cells HY3.out.blk 7
      have b8 := cell_of_cells HY3.out.blk 8
      have bl := lt_of_block HY3.out.blk
      go_wp2_with fail
      refine (sameStm_at (Hry.out.alloc _) (Hr.out.keeps HY4.out.kp (by simp)) (by omega)).mono ?_
      rintro e ws ⟨rfl, hks⟩
      have HS := Lib.hid (HY4.out.step hks)
      have Hr5 := Lib.hid ((Hr4.out.alloc _).keeps hks (by simp))
      clear hks b0 b1 b2 b3 b4 b5 b6 b7 b8 bl
      go_wp2_with fail
      refine (pageTake_at (Hr5.out.preL u8c_length k (by omega)) Hkl.out HXk.out (by omega) Hst.out Hsh.out).mono ?_
      rintro e wm0 ⟨adm, capm, rfl, hrm, hkm⟩
      have HM0 := Lib.hid ((HS.out.step hkm).step (Keeps.alloc _ (.cells #[.int .i64 stm0.cycle, .int .i64 stm0.fr, .int .i64 stm0.to, .int .i64 stm0.due, .slice adm stm0.lines.length capm, .int .i64 stm0.total, .int .i64 stm0.credit, .int .i64 stm0.min, .bool stm0.grace] 44)))
      clear hkm hrm
      go_wp2_with fail
      refine (pageTake_at (Hrb'.out.keeps HM0.out.kp (by simp)) rfl HB.out (by omega) Hz.out Hh.out).mono ?_
      rintro e wt ⟨adt, capt, rfl, hrt, hkt⟩
      have HT := Lib.hid (HM0.out.step hkt)
      have Hrt := Lib.hid hrt; clear hrt
      clear hkt
      go_wp2_with fail
      refine (pagePack_at (Hrt.out.alloc _) (by omega) HY.out Hi.out Hm.out).mono ?_
      rintro e wu ⟨adu, capu, rfl, hru, hcu, hku⟩
      have HU := Lib.hid (HT.out.step ((Keeps.alloc _ _).none_trans hku))
      have Hru := Lib.hid hru; clear hru
      clear hku
      go_wp2_with (go_at_call 22; refine (helpBytes_eq B _ _ _ (HrY.out _ _ _ HYB.out Hru.out) (Hrb'.out.keeps HU.out.kp (by simp))).mono ?_; rintro e wv ⟨rfl, rfl⟩)
      go_ret
      exact ⟨rfl, HU.out.kp.below (by simp) (Nat.le_refl _)⟩
    ·
      have Hr := Lib.hid hr; clear hr; have Hrb := Lib.hid hrb; clear hrb; have Hpb := Lib.hid hpb; clear hpb; have Hcut := Lib.hid hcut; clear hcut; have HB := Lib.hid hB; clear hB; have Hrb' := Lib.hid hrb'; clear hrb'; have HX := Lib.hid hX; clear hX; have Hn := Lib.hid hn; clear hn; have HXb := Lib.hid hXb; clear hXb; have Hz := Lib.hid hz; clear hz; have Hh := Lib.hid hh; clear hh; have Hi := Lib.hid hi; clear hi; have HY := Lib.hid hY; clear hY; have Hm := Lib.hid hm; clear hm; have Hw := Lib.hid hw; clear hw; have He := Lib.hid he; clear he; have HrY := Lib.hid hrY; clear hrY
      go_enter Try.func5, Try.ntmps5
      go_wp2_with fail
      refine (pagePack_at (Hr.out.alloc _) (by omega) HX.out He.out Hn.out).mono ?_
      rintro e w1 ⟨ad1, cap1, rfl, hr1, hc1, hk1⟩
      have HA := Lib.hid (BW.start hk1)
      have Hr1 := Lib.hid hr1; clear hr1
      clear hk1
      go_wp2_with fail
      refine (awake20_any _).mono ?_
      rintro e w2 ⟨rfl, hk2⟩
      have HB2 := Lib.hid (HA.out.step hk2)
      have Hr2 := Lib.hid (Hr1.out.keeps hk2 (by simp))
      clear hk2
      have b0 := cell_of_cells HB2.out.blk 0
      have b1 := cell_of_cells HB2.out.blk 1
      have b2 := cell_of_cells HB2.out.blk 2
      have b3 := cell_of_cells HB2.out.blk 3
      have b4 := cell_of_cells HB2.out.blk 4
      have b5 := cell_of_cells HB2.out.blk 5
      have b6 := cell_of_cells HB2.out.blk 6
      have b7 := cell_of_cells HB2.out.blk 7
      have b8 := cell_of_cells HB2.out.blk 8
      have bl := lt_of_block HB2.out.blk
      go_wp2_with fail
      refine (rpageRight_at (Hr.out.keeps HB2.out.kp (by simp)) (by omega) Hw.out).mono ?_
      rintro e wD ⟨rfl, hk3⟩
      have HD := Lib.hid (HB2.out.step hk3)
      have Hr3 := Lib.hid (Hr2.out.keeps hk3 (by simp))
      clear hk3 b0 b1 b2 b3 b4 b5 b6 b7 b8 bl
      go_wp2_with fail
      refine (pageTake_at Hr3.out Hn.out HXb.out (by omega) Htk.out.2 Htk.out.1).mono ?_
      rintro e wy ⟨ady, capy, rfl, hry, hky⟩
      have HY3 := Lib.hid (HD.out.step hky)
      have Hr4 := Lib.hid (Hr3.out.keeps hky (by simp))
      have HY4 := Lib.hid (HY3.out.step (Keeps.alloc _ (.cells #[.int .i64 s.cycle, .int .i64 s.fr, .int .i64 s.to, .int .i64 s.due, .slice ady s.lines.length capy, .int .i64 s.total, .int .i64 s.credit, .int .i64 s.min, .bool s.grace] 44)))
      have Hry := Lib.hid hry; clear hry
      clear hky
      have b0 := cell_of_cells HY3.out.blk 0
      have b1 := cell_of_cells HY3.out.blk 1
      have b2 := cell_of_cells HY3.out.blk 2
      have b3 := cell_of_cells HY3.out.blk 3
      have b4 := cell_of_cells HY3.out.blk 4
      have b5 := cell_of_cells HY3.out.blk 5
      have b6 := cell_of_cells HY3.out.blk 6
      have b7 := cell_of_cells HY3.out.blk 7
      have b8 := cell_of_cells HY3.out.blk 8
      have bl := lt_of_block HY3.out.blk
      go_wp2_with fail
      refine (sameStm_at (Hry.out.alloc _) (Hr.out.keeps HY4.out.kp (by simp)) (by omega)).mono ?_
      rintro e ws ⟨rfl, hks⟩
      have HS := Lib.hid (HY4.out.step hks)
      have Hr5 := Lib.hid ((Hr4.out.alloc _).keeps hks (by simp))
      clear hks b0 b1 b2 b3 b4 b5 b6 b7 b8 bl
      go_wp2_with fail
      refine (pageTake_at (Hr5.out.preL u8c_length k (by omega)) Hkl.out HXk.out (by omega) Hst.out Hsh.out).mono ?_
      rintro e wm0 ⟨adm, capm, rfl, hrm, hkm⟩
      have HM0 := Lib.hid ((HS.out.step hkm).step (Keeps.alloc _ (.cells #[.int .i64 stm0.cycle, .int .i64 stm0.fr, .int .i64 stm0.to, .int .i64 stm0.due, .slice adm stm0.lines.length capm, .int .i64 stm0.total, .int .i64 stm0.credit, .int .i64 stm0.min, .bool stm0.grace] 44)))
      clear hkm hrm
      go_wp2_with fail
      refine (pageTake_at (Hrb'.out.keeps HM0.out.kp (by simp)) rfl HB.out (by omega) Hz.out Hh.out).mono ?_
      rintro e wt ⟨adt, capt, rfl, hrt, hkt⟩
      have HT := Lib.hid (HM0.out.step hkt)
      have Hrt := Lib.hid hrt; clear hrt
      clear hkt
      go_wp2_with fail
      refine (pagePack_at (Hrt.out.alloc _) (by omega) HY.out Hi.out Hm.out).mono ?_
      rintro e wu ⟨adu, capu, rfl, hru, hcu, hku⟩
      have HU := Lib.hid (HT.out.step ((Keeps.alloc _ _).none_trans hku))
      have Hru := Lib.hid hru; clear hru
      clear hku
      go_wp2
      go_ret
      exact ⟨rfl, HU.out.kp.below (by simp) (Nat.le_refl _)⟩
    ·
      have Hr := Lib.hid hr; clear hr; have Hrb := Lib.hid hrb; clear hrb; have Hpb := Lib.hid hpb; clear hpb; have Hcut := Lib.hid hcut; clear hcut; have HB := Lib.hid hB; clear hB; have Hrb' := Lib.hid hrb'; clear hrb'; have HX := Lib.hid hX; clear hX; have Hn := Lib.hid hn; clear hn; have HXb := Lib.hid hXb; clear hXb; have Hz := Lib.hid hz; clear hz; have Hh := Lib.hid hh; clear hh; have Hi := Lib.hid hi; clear hi; have HY := Lib.hid hY; clear hY; have Hm := Lib.hid hm; clear hm; have Hw := Lib.hid hw; clear hw; have He := Lib.hid he; clear he; have HrY := Lib.hid hrY; clear hrY
      go_enter Try.func5, Try.ntmps5
      go_wp2_with fail
      refine (pagePack_at (Hr.out.alloc _) (by omega) HX.out He.out Hn.out).mono ?_
      rintro e w1 ⟨ad1, cap1, rfl, hr1, hc1, hk1⟩
      have HA := Lib.hid (BW.start hk1)
      have Hr1 := Lib.hid hr1; clear hr1
      clear hk1
      go_wp2_with fail
      refine (awake20_any _).mono ?_
      rintro e w2 ⟨rfl, hk2⟩
      have HB2 := Lib.hid (HA.out.step hk2)
      have Hr2 := Lib.hid (Hr1.out.keeps hk2 (by simp))
      clear hk2
      have b0 := cell_of_cells HB2.out.blk 0
      have b1 := cell_of_cells HB2.out.blk 1
      have b2 := cell_of_cells HB2.out.blk 2
      have b3 := cell_of_cells HB2.out.blk 3
      have b4 := cell_of_cells HB2.out.blk 4
      have b5 := cell_of_cells HB2.out.blk 5
      have b6 := cell_of_cells HB2.out.blk 6
      have b7 := cell_of_cells HB2.out.blk 7
      have b8 := cell_of_cells HB2.out.blk 8
      have bl := lt_of_block HB2.out.blk
      go_wp2_with fail
      refine (rpageRight_at (Hr.out.keeps HB2.out.kp (by simp)) (by omega) Hw.out).mono ?_
      rintro e wD ⟨rfl, hk3⟩
      have HD := Lib.hid (HB2.out.step hk3)
      have Hr3 := Lib.hid (Hr2.out.keeps hk3 (by simp))
      clear hk3 b0 b1 b2 b3 b4 b5 b6 b7 b8 bl
      go_wp2_with fail
      refine (pageTake_at Hr3.out Hn.out HXb.out (by omega) Htk.out.2 Htk.out.1).mono ?_
      rintro e wy ⟨ady, capy, rfl, hry, hky⟩
      have HY3 := Lib.hid (HD.out.step hky)
      have Hr4 := Lib.hid (Hr3.out.keeps hky (by simp))
      have HY4 := Lib.hid (HY3.out.step (Keeps.alloc _ (.cells #[.int .i64 s.cycle, .int .i64 s.fr, .int .i64 s.to, .int .i64 s.due, .slice ady s.lines.length capy, .int .i64 s.total, .int .i64 s.credit, .int .i64 s.min, .bool s.grace] 44)))
      have Hry := Lib.hid hry; clear hry
      clear hky
      have b0 := cell_of_cells HY3.out.blk 0
      have b1 := cell_of_cells HY3.out.blk 1
      have b2 := cell_of_cells HY3.out.blk 2
      have b3 := cell_of_cells HY3.out.blk 3
      have b4 := cell_of_cells HY3.out.blk 4
      have b5 := cell_of_cells HY3.out.blk 5
      have b6 := cell_of_cells HY3.out.blk 6
      have b7 := cell_of_cells HY3.out.blk 7
      have b8 := cell_of_cells HY3.out.blk 8
      have bl := lt_of_block HY3.out.blk
      go_wp2_with fail
      refine (sameStm_at (Hry.out.alloc _) (Hr.out.keeps HY4.out.kp (by simp)) (by omega)).mono ?_
      rintro e ws ⟨rfl, hks⟩
      have HS := Lib.hid (HY4.out.step hks)
      have Hr5 := Lib.hid ((Hr4.out.alloc _).keeps hks (by simp))
      clear hks b0 b1 b2 b3 b4 b5 b6 b7 b8 bl
      go_wp2_with fail
      refine (pageTake_at (Hr5.out.preL u8c_length k (by omega)) Hkl.out HXk.out (by omega) Hst.out Hsh.out).mono ?_
      rintro e wm0 ⟨adm, capm, rfl, hrm, hkm⟩
      have HM0 := Lib.hid ((HS.out.step hkm).step (Keeps.alloc _ (.cells #[.int .i64 stm0.cycle, .int .i64 stm0.fr, .int .i64 stm0.to, .int .i64 stm0.due, .slice adm stm0.lines.length capm, .int .i64 stm0.total, .int .i64 stm0.credit, .int .i64 stm0.min, .bool stm0.grace] 44)))
      clear hkm hrm
      go_wp2_with fail
      refine (pageTake_at (Hrb'.out.keeps HM0.out.kp (by simp)) rfl HB.out (by omega) Hz.out Hh.out).mono ?_
      rintro e wt ⟨adt, capt, rfl, hrt, hkt⟩
      have HT := Lib.hid (HM0.out.step hkt)
      have Hrt := Lib.hid hrt; clear hrt
      clear hkt
      go_wp2_with fail
      refine (pagePack_at (Hrt.out.alloc _) (by omega) HY.out Hi.out Hm.out).mono ?_
      rintro e wu ⟨adu, capu, rfl, hru, hcu, hku⟩
      have HU := Lib.hid (HT.out.step ((Keeps.alloc _ _).none_trans hku))
      have Hru := Lib.hid hru; clear hru
      clear hku
      go_wp2
      go_ret
      exact ⟨rfl, HU.out.kp.below (by simp) (Nat.le_refl _)⟩
end Go.Proofs.Ythokcmbgamanbaa
