/- PageTurned: with a byte turned, or more behind, a statement is taken as the document takes it: another one, or none. -/
import Derived.Test.YthokcmbgamanbaaPage9
import Derived.Test.YthokcmbgamanbaaPage12
namespace Go.Proofs.Ythokcmbgamanbaa
open Go.RowKit
theorem rpageTake_at {w : World} {ad : Option Addr} {cap n : Nat} {X : List Int} (hr : Reads w 1 (.slice ad n cap) n (X.flatMap u8c)) (hn : X.length = n) (hX : ∀ z ∈ X, 0 ≤ z ∧ z ≤ 255) (hl : n ≤ 1000000) {s : Stm} {err : Int} (hs : takeStm X = s) (he : takeErr X = err) :
    Calls Try.prog 24 #[.slice ad n cap] w fun e w' => ∃ ad' cap', e = .returned (.tuple #[.agg #[.int .i64 s.cycle, .int .i64 s.fr, .int .i64 s.to, .int .i64 s.due, .slice ad' s.lines.length cap', .int .i64 s.total, .int .i64 s.credit, .int .i64 s.min, .bool s.grace], .int .i64 err]) ∧
      Reads w' 3 (.slice ad' s.lines.length cap') s.lines.length (s.lines.flatMap Ln.cells) ∧ Keeps (fun _ => False) w w' := by
  subst hn hs he
  refine (rpageTake_any ad cap X w hr hX hl).mono ?_
  rintro e w' ⟨v, rfl, hrow, _, hk⟩
  obtain ⟨ad', cap', rfl, _, _⟩ := ownsRow_shape hrow
  exact ⟨ad', cap', rfl, Reads.of_owns hrow, hk⟩
theorem rpagePack_at {w : World} {s : Stm} {ad : Option Addr} {cap n : Nat} (hr : Reads w 3 (.slice ad s.lines.length cap) s.lines.length (s.lines.flatMap Ln.cells)) (hl : s.lines.length ≤ 1000000) {X : List Int} {err : Int} (hX : packB s = X) (he : packErr s = err) (hn : X.length = n) :
    Calls Try.prog 23 #[.agg #[.int .i64 s.cycle, .int .i64 s.fr, .int .i64 s.to, .int .i64 s.due, .slice ad s.lines.length cap, .int .i64 s.total, .int .i64 s.credit, .int .i64 s.min, .bool s.grace]] w fun e w' => ∃ ad' cap', e = .returned (.tuple #[.slice ad' n cap', .int .i64 err]) ∧ w'.ownsRow 0 5 1 (.slice ad' n cap') n (X.flatMap u8c) ∧ (∀ g, (Value.slice ad' n cap').ownBlock = some g → w.heap.size ≤ g) ∧ Keeps (fun _ => False) w w' := by
  subst hX he hn
  refine (rpagePack_any s ad cap w hr hl).mono ?_
  rintro e w' ⟨v, rfl, hf⟩
  have hrow := hf.row
  obtain ⟨ad', cap', rfl, hc, _⟩ := ownsRow_shape hrow
  exact ⟨ad', cap', rfl, hrow, hf.nw, hf.kp⟩
theorem takeStm_len {B : List Int} (hB : ∀ z ∈ B, 0 ≤ z ∧ z ≤ 255) : (takeStm B).lines.length ≤ 8 := by
  by_cases h0 : takeErr B = 0
  · exact (Stm.right_of (pack_take hB h0).1).len.2
  · rw [takeStm, if_neg h0]; exact Nat.zero_le _
theorem xor_byte {a b : Int} (h0 : 0 ≤ a ∧ a ≤ 255) (h1 : 0 ≤ b ∧ b ≤ 255) : ∃ z : Int, bits .xor .u8 a b = z ∧ 0 ≤ z ∧ z ≤ 255 := by
  obtain ⟨a, rfl⟩ := Int.eq_ofNat_of_zero_le h0.1
  obtain ⟨b, rfl⟩ := Int.eq_ofNat_of_zero_le h1.1
  refine ⟨_, u8_xor_nat a b (by omega) (by omega), by omega, ?_⟩
  have := Nat.xor_lt_two_pow (n := 8) (x := a) (y := b) (by omega) (by omega)
  omega
theorem bytes_set {w : World} {g cap n k : Nat} {X : List Int} {y : Int} (h : w.ownsRow 0 5 1 (.slice (some ⟨g, 0, none⟩) n cap) n (X.flatMap u8c)) : (w.setCell ⟨g, k, none⟩ (.int .u8 y)).ownsRow 0 5 1 (.slice (some ⟨g, 0, none⟩) n cap) n ((X.set k y).flatMap u8c) := by
  have := (h.stored k (.int .u8 y)).1
  rw [flat_u8c, ← List.map_set, ← flat_u8c] at this
  exact this
set_option maxRecDepth 100000 in
set_option maxHeartbeats 800000 in
theorem pageTurned_awake1 (s : Stm) (w : World) (ad : Option Addr) (cap : Nat) (a b : Int) (more : Bool) (h : 20 < s.lines.length) :
    Calls Try.prog 6 #[.agg #[.int .i64 s.cycle, .int .i64 s.fr, .int .i64 s.to, .int .i64 s.due, .slice ad s.lines.length cap, .int .i64 s.total, .int .i64 s.credit, .int .i64 s.min, .bool s.grace], .int .i64 a, .int .u8 b, .bool more] w fun e w' => e = .returned (.bool true) ∧ Below w.heap.size w w' := by
  go_enter Try.func6, Try.ntmps6
  go_wp2_with (go_at_call 17; refine (awake20_any _).mono ?_; rintro e w1 ⟨rfl, hk⟩; have Hk := Lib.hid hk; clear hk)
  go_ret
  exact ⟨rfl, Keeps.below (S := fun _ => False) ((Keeps.alloc _ _).none_trans Hk.out) (by simp) (Nat.le_refl _)⟩
set_option maxRecDepth 100000 in
set_option maxHeartbeats 800000 in
theorem pageTurned_awake2 (s : Stm) (w : World) (ad : Option Addr) (cap : Nat) (a b : Int) (more : Bool) (h : s.lines.length ≤ 20) (hw : s.rightB = false) (hr : Reads w 3 (.slice ad s.lines.length cap) s.lines.length (s.lines.flatMap Ln.cells)) :
    Calls Try.prog 6 #[.agg #[.int .i64 s.cycle, .int .i64 s.fr, .int .i64 s.to, .int .i64 s.due, .slice ad s.lines.length cap, .int .i64 s.total, .int .i64 s.credit, .int .i64 s.min, .bool s.grace], .int .i64 a, .int .u8 b, .bool more] w fun e w' => e = .returned (.bool true) ∧ Below w.heap.size w w' := by
  have he : packErr s = 4 := by unfold packErr; rw [hw]; rfl
  obtain ⟨X, hX⟩ : ∃ X, packB s = X := ⟨_, rfl⟩
  obtain ⟨n, hn⟩ : ∃ n, X.length = n := ⟨_, rfl⟩
  have Hr := Lib.hid hr; clear hr; have Hw := Lib.hid hw; clear hw; have He := Lib.hid he; clear he; have HX := Lib.hid hX; clear hX; have Hn := Lib.hid hn; clear hn
  go_enter Try.func6, Try.ntmps6
  go_wp2_with fail
  refine (rpagePack_at (Hr.out.alloc _) (by omega) HX.out He.out Hn.out).mono ?_
  rintro e w1 ⟨ad1, cap1, rfl, _, _, hk1⟩
  have HA := Lib.hid (BW.start hk1)
  clear hk1
  go_wp2_with (go_at_call 17; refine (awake20_any _).mono ?_; rintro e w2 ⟨rfl, hk⟩; have Hk := Lib.hid hk; clear hk)
  go_ret
  exact ⟨rfl, (HA.out.step Hk.out).kp.below (by simp) (Nat.le_refl _)⟩
set_option maxRecDepth 100000 in
set_option maxHeartbeats 3200000 in
theorem pageTurned_walk (w : World) (s : Stm) (ad : Option Addr) (cap : Nat) (hr : Reads w 3 (.slice ad s.lines.length cap) s.lines.length (s.lines.flatMap Ln.cells)) (hm : s.lines.length ≤ maxLen)
    (a : Int) (ha : (Lit.int .i64 a).wf = true) (b : Int) (hb : (Lit.int .u8 b).wf = true) (more : Bool) :
    Calls Try.prog 6 #[.agg #[.int .i64 s.cycle, .int .i64 s.fr, .int .i64 s.to, .int .i64 s.due, .slice ad s.lines.length cap, .int .i64 s.total, .int .i64 s.credit, .int .i64 s.min, .bool s.grace], .int .i64 a, .int .u8 b, .bool more] w fun e w' => e = .returned (.bool true) ∧ Below w.heap.size w w' := by
  by_cases hg : 20 < s.lines.length
  · exact pageTurned_awake1 s w ad cap a b more hg
  have hl20 : s.lines.length ≤ 20 := by omega
  rcases hw : s.rightB with _ | _
  · exact pageTurned_awake2 s w ad cap a b more hl20 hw hr
  have he : packErr s = 0 := by unfold packErr; rw [hw]; rfl
  have hbb := wf_u8 hb
  obtain ⟨X, hX⟩ : ∃ X, packB s = X := ⟨_, rfl⟩
  obtain ⟨n, hn⟩ : ∃ n, X.length = n := ⟨_, rfl⟩
  have hn264 : n ≤ 264 := by rw [← hn, ← hX]; exact packB_length s
  have hXb : ∀ z ∈ X, 0 ≤ z ∧ z ≤ 255 := by rw [← hX]; exact packB_bytes s
  have hn72 : 72 ≤ n := by rw [← hn, ← hX, packB, if_pos hw, packN_length, Stm.nums_length]; omega
  obtain ⟨k, hk, hkeq⟩ := umod a n (by omega) (by omega)
  have hkn : k < n := by omega
  obtain ⟨z, hz⟩ := get_some (L := X) (k := k) (by omega)
  obtain ⟨y, hy, hy0, hy1⟩ := xor_byte (hXb z (List.mem_of_getElem? hz)) hbb
  have hYb : ∀ x ∈ X.set k y, 0 ≤ x ∧ x ≤ 255 := fun x hx => by
    rcases List.mem_or_eq_of_mem_set hx with h | rfl
    · exact hXb x h
    · exact ⟨hy0, hy1⟩
  obtain ⟨Y, hY⟩ : ∃ Y, X.set k y = Y := ⟨_, rfl⟩
  have hYl : Y.length = n := by rw [← hY, List.length_set]; exact hn
  rw [hY] at hYb
  have hnw : IntKind.u64.wrap (n : Int) = (n : Int) := by simp [IntKind.wrap, IntKind.signed, IntKind.bits]; omega
  obtain ⟨i0, hi, hi0, hi1, hi2⟩ := info_parts info_tByte
  clear hg hm
  have Hr := Lib.hid hr; clear hr; have Ha := Lib.hid ha; clear ha; have Hb := Lib.hid hb; clear hb; have He := Lib.hid he; clear he; have Hbb := Lib.hid hbb; clear hbb; have HX := Lib.hid hX; clear hX; have Hn := Lib.hid hn; clear hn; have HXb := Lib.hid hXb; clear hXb; have Hz := Lib.hid hz; clear hz; have HYb := Lib.hid hYb; clear hYb; have HY := Lib.hid hY; clear hY; have HYl := Lib.hid hYl; clear hYl; have Hw := Lib.hid hw; clear hw
  go_enter Try.func6, Try.ntmps6
  go_wp2_with fail
  refine (rpagePack_at (Hr.out.alloc _) (by omega) HX.out He.out Hn.out).mono ?_
  rintro e w1 ⟨ad1, cap1, rfl, hrow, hnw1, hk1⟩
  obtain ⟨g, cap2, hv, hgl⟩ := owns_some hrow (by omega)
  simp only [Value.slice.injEq, true_and] at hv
  obtain ⟨rfl, rfl⟩ := hv
  have hrow' : w1.ownsRow 0 5 1 (.slice (some ⟨g, 0, none⟩) X.length cap1) X.length (X.flatMap u8c) := by rw [Hn.out]; exact hrow
  have x0 : w1.cell? ⟨g, k, none⟩ = some (.int .u8 z) := by have := owns_elem u8c_length hrow' Hz.out 0 (by decide); simpa [u8c] using this
  have x0f : w1.frozen? ⟨g, k, none⟩ = false := hrow.frozenAt _
  have hgw : w.heap.size ≤ g := by have := hnw1 g rfl; simp at this; omega
  have hset := bytes_set (k := k) (y := y) hrow
  rw [HY.out] at hset
  have hks : Keeps (fun _ => False) w (w1.setCell ⟨g, k, none⟩ (.int .u8 y)) := ((Keeps.alloc _ _).none_trans hk1).trans (Keeps.setCell _ _ _ (.inr hgw))
  have Hrow := Lib.hid hrow; clear hrow; have Hrow' := Lib.hid hrow'; clear hrow'; have Hnw1 := Lib.hid hnw1; clear hnw1; have Hk1 := Lib.hid hk1; clear hk1; have Hset := Lib.hid hset; clear hset; have Hks := Lib.hid hks; clear hks
  cases more
  · have HnX := HYl
    go_wp2_with fail
    refine (pageTake_at (Reads.of_owns Hset.out) HnX.out HYb.out (by omega) rfl rfl).mono ?_
    rintro e wt ⟨adt, capt, rfl, hrt, hkt⟩
    have hrow2 := hkt.row Hset.out (by simp)
    have hb1 := heap_alloc_new wt (.cells #[.int .i64 (takeStm Y).cycle, .int .i64 (takeStm Y).fr, .int .i64 (takeStm Y).to, .int .i64 (takeStm Y).due, .slice adt (takeStm Y).lines.length capt, .int .i64 (takeStm Y).total, .int .i64 (takeStm Y).credit, .int .i64 (takeStm Y).min, .bool (takeStm Y).grace] 44)
    have Hrt := Lib.hid hrt; clear hrt; have Hkt := Lib.hid hkt; clear hkt; have Hrow2 := Lib.hid hrow2; clear hrow2; have Hb1 := Lib.hid hb1; clear hb1
    go_wp2_with fail
    refine (rpageTake_at (Reads.of_owns (Hrow2.out.alloc _)) HnX.out HYb.out (by omega) rfl rfl).mono ?_
    rintro e wu ⟨adu, capu, rfl, hru, hku⟩
    have hb1' := box_old Hb1.out hku (by simp)
    have hb2 := heap_alloc_new wu (.cells #[.int .i64 (takeStm Y).cycle, .int .i64 (takeStm Y).fr, .int .i64 (takeStm Y).to, .int .i64 (takeStm Y).due, .slice adu (takeStm Y).lines.length capu, .int .i64 (takeStm Y).total, .int .i64 (takeStm Y).credit, .int .i64 (takeStm Y).min, .bool (takeStm Y).grace] 44)
    have hrt' := (Hrt.out.alloc _).keeps hku (by simp)
    have Hru := Lib.hid hru; clear hru; have Hku := Lib.hid hku; clear hku; have Hb1' := Lib.hid hb1'; clear hb1'; have Hb2 := Lib.hid hb2; clear hb2; have Hrt' := Lib.hid hrt'; clear hrt'
    go_wp2_with fail
    refine (awake20_any _).mono ?_
    rintro e wv ⟨rfl, hkv⟩
    have hc1 := box_old (box_alloc Hb1'.out _) hkv (by simp)
    have hc2 := box_old Hb2.out hkv (by simp)
    have p0 := cell_of_cells hc1 0
    have p1 := cell_of_cells hc1 1
    have p2 := cell_of_cells hc1 2
    have p3 := cell_of_cells hc1 3
    have p4 := cell_of_cells hc1 4
    have p5 := cell_of_cells hc1 5
    have p6 := cell_of_cells hc1 6
    have p7 := cell_of_cells hc1 7
    have p8 := cell_of_cells hc1 8
    have q0 := cell_of_cells hc2 0
    have q1 := cell_of_cells hc2 1
    have q2 := cell_of_cells hc2 2
    have q3 := cell_of_cells hc2 3
    have q4 := cell_of_cells hc2 4
    have q5 := cell_of_cells hc2 5
    have q6 := cell_of_cells hc2 6
    have q7 := cell_of_cells hc2 7
    have q8 := cell_of_cells hc2 8
    have pl := lt_of_block hc1
    have ql := lt_of_block hc2
    have hlen := takeStm_len HYb.out
    have Hkv := Lib.hid hkv; clear hkv; have Hc1 := Lib.hid hc1; clear hc1; have Hc2 := Lib.hid hc2; clear hc2
    go_wp2_with (go_at_call 21; refine (sameStm_at ((Hrt'.out.alloc _).keeps Hkv.out (by simp)) ((Hru.out.alloc _).keeps Hkv.out (by simp)) (by omega)).mono ?_; rintro e wx ⟨rfl, hkx⟩; have Hkx := Lib.hid hkx; clear hkx)
    go_ret
    exact ⟨rfl, (((((Hks.out.none_trans Hkt.out).none_trans (Keeps.alloc _ _)).none_trans Hku.out).none_trans (Keeps.alloc _ _)).none_trans (Hkv.out.none_trans Hkx.out)).below (by simp) (Nat.le_refl _)⟩
  · have hZb : ∀ x ∈ Y ++ [b], 0 ≤ x ∧ x ≤ 255 := fun x hx => by
      rcases List.mem_append.1 hx with h | h
      · exact HYb.out x h
      · simp at h; subst h; exact Hbb.out
    have HnX : Hid ((Y ++ [b]).length = n + 1) := Lib.hid (by rw [List.length_append, HYl.out]; rfl)
    have HZb := Lib.hid hZb; clear hZb
    go_wp2_with (at_builtin; refine wpList_append_row rfl (.tmp 51) (.tmp 53) 22 rfl 0 5 i0 _ 1 1 Try.underlying22 hi hi0 hi1 hi2 rfl (by decide) (.slice (some ⟨g, 0, none⟩) n cap1) n _ rfl (Hset.out.alloc _) _ 1 _ rfl (Reads.litAt _ _ _ _ _ _ (by simp) rfl) (by simp [Value.oneCell']) (by unfold maxLen; omega) (by omega) (by omega) ?_)
    intro v4 w4 ho4 hk4 hf4
    obtain ⟨ad4, cap4, rfl, _, _⟩ := ownsRow_shape ho4
    have ho5 : w4.ownsRow 0 5 1 (.slice ad4 (n + 1) cap4) (n + 1) ((Y ++ [b]).flatMap u8c) := by rw [List.flatMap_append]; exact ho4
    have hk5 : Keeps (fun _ => False) w w4 := (Hks.out.none_trans (Keeps.alloc _ _)).trans (hk4.mono fun q _ hq => by right; simp only [Value.ownBlock, Option.some.injEq] at hq; omega)
    have Ho5 := Lib.hid ho5; clear ho5; have Hk5 := Lib.hid hk5; clear hk5
    clear ho4 hk4 hf4
    go_wp2_with fail
    refine (pageTake_at (Reads.of_owns Ho5.out) HnX.out HZb.out (by omega) rfl rfl).mono ?_
    rintro e wt ⟨adt, capt, rfl, hrt, hkt⟩
    have hrow2 := hkt.row Ho5.out (by simp)
    have hb1 := heap_alloc_new wt (.cells #[.int .i64 (takeStm (Y ++ [b])).cycle, .int .i64 (takeStm (Y ++ [b])).fr, .int .i64 (takeStm (Y ++ [b])).to, .int .i64 (takeStm (Y ++ [b])).due, .slice adt (takeStm (Y ++ [b])).lines.length capt, .int .i64 (takeStm (Y ++ [b])).total, .int .i64 (takeStm (Y ++ [b])).credit, .int .i64 (takeStm (Y ++ [b])).min, .bool (takeStm (Y ++ [b])).grace] 44)
    have Hrt := Lib.hid hrt; clear hrt; have Hkt := Lib.hid hkt; clear hkt; have Hrow2 := Lib.hid hrow2; clear hrow2; have Hb1 := Lib.hid hb1; clear hb1
    go_wp2_with fail
    refine (rpageTake_at (Reads.of_owns (Hrow2.out.alloc _)) HnX.out HZb.out (by omega) rfl rfl).mono ?_
    rintro e wu ⟨adu, capu, rfl, hru, hku⟩
    have hb1' := box_old Hb1.out hku (by simp)
    have hb2 := heap_alloc_new wu (.cells #[.int .i64 (takeStm (Y ++ [b])).cycle, .int .i64 (takeStm (Y ++ [b])).fr, .int .i64 (takeStm (Y ++ [b])).to, .int .i64 (takeStm (Y ++ [b])).due, .slice adu (takeStm (Y ++ [b])).lines.length capu, .int .i64 (takeStm (Y ++ [b])).total, .int .i64 (takeStm (Y ++ [b])).credit, .int .i64 (takeStm (Y ++ [b])).min, .bool (takeStm (Y ++ [b])).grace] 44)
    have hrt' := (Hrt.out.alloc _).keeps hku (by simp)
    have Hru := Lib.hid hru; clear hru; have Hku := Lib.hid hku; clear hku; have Hb1' := Lib.hid hb1'; clear hb1'; have Hb2 := Lib.hid hb2; clear hb2; have Hrt' := Lib.hid hrt'; clear hrt'
    go_wp2_with fail
    refine (awake20_any _).mono ?_
    rintro e wv ⟨rfl, hkv⟩
    have hc1 := box_old (box_alloc Hb1'.out _) hkv (by simp)
    have hc2 := box_old Hb2.out hkv (by simp)
    have p0 := cell_of_cells hc1 0
    have p1 := cell_of_cells hc1 1
    have p2 := cell_of_cells hc1 2
    have p3 := cell_of_cells hc1 3
    have p4 := cell_of_cells hc1 4
    have p5 := cell_of_cells hc1 5
    have p6 := cell_of_cells hc1 6
    have p7 := cell_of_cells hc1 7
    have p8 := cell_of_cells hc1 8
    have q0 := cell_of_cells hc2 0
    have q1 := cell_of_cells hc2 1
    have q2 := cell_of_cells hc2 2
    have q3 := cell_of_cells hc2 3
    have q4 := cell_of_cells hc2 4
    have q5 := cell_of_cells hc2 5
    have q6 := cell_of_cells hc2 6
    have q7 := cell_of_cells hc2 7
    have q8 := cell_of_cells hc2 8
    have pl := lt_of_block hc1
    have ql := lt_of_block hc2
    have hlen := takeStm_len HZb.out
    have Hkv := Lib.hid hkv; clear hkv; have Hc1 := Lib.hid hc1; clear hc1; have Hc2 := Lib.hid hc2; clear hc2
    go_wp2_with (go_at_call 21; refine (sameStm_at ((Hrt'.out.alloc _).keeps Hkv.out (by simp)) ((Hru.out.alloc _).keeps Hkv.out (by simp)) (by omega)).mono ?_; rintro e wx ⟨rfl, hkx⟩; have Hkx := Lib.hid hkx; clear hkx)
    go_ret
    exact ⟨rfl, (((((Hk5.out.none_trans Hkt.out).none_trans (Keeps.alloc _ _)).none_trans Hku.out).none_trans (Keeps.alloc _ _)).none_trans (Hkv.out.none_trans Hkx.out)).below (by simp) (Nat.le_refl _)⟩
end Go.Proofs.Ythokcmbgamanbaa
