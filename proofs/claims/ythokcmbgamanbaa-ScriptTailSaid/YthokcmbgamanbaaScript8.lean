/- awake of the script layer; ScriptDecodes: which terms, and which commands, any bytes are; what is handed in stays. -/
import Derived.Test.YthokcmbgamanbaaScript6
import Derived.Test.YthokcmbgamanbaaScript7
namespace Go.Proofs.Ythokcmbgamanbaa
open Go.RowKit
def awB : List Int := [0, 1, 1, 0, 0, 9, 0, 0, 0, 0, 1, 0, 7]
theorem DecPost.keeps {w w' : World} {B : List Int} {e : Ending} (h : DecPost w B e w') : Keeps (fun _ => False) w w' := by obtain ⟨v0, v, _, _, _, h, _⟩ := h; exact h
set_option maxRecDepth 100000 in
set_option maxHeartbeats 800000 in
theorem awake27_any (w : World) : Calls Try.prog 9 #[] w fun e w' => e = .returned (.bool true) ∧ Keeps (fun _ => False) w w' := by
  have hB : ByOk awB := ⟨by decide, by decide⟩
  have hr : Reads (w.alloc (.cells #[.int .u8 0, .int .u8 1, .int .u8 1, .int .u8 0, .int .u8 0, .int .u8 9, .int .u8 0, .int .u8 0, .int .u8 0, .int .u8 0, .int .u8 1, .int .u8 0, .int .u8 7] 5)) 1 (.slice (some ⟨w.heap.size, 0, none⟩) awB.length 13) awB.length (awB.flatMap u8c) :=
    Reads.lit w _ _ 1 13 rfl
  have ht : ∀ v, (scrTerms awB).cells v = #[.int .i64 9000, v, .int .i64 1, .int .i64 1, .int .i64 0, .int .i64 0, .int .i64 10957] := fun v => rfl
  have hN : scrN awB = 1 := by decide
  have hM : scrM awB = 1 := by decide
  have hc : scrCmds awB 1 = [⟨1, 0, 1, 7, 0⟩] := by decide
  have hlen : awB.length = 13 := rfl
  have hdec := fun W (hr : Reads W 1 (.slice (some ⟨w.heap.size, 0, none⟩) awB.length 13) awB.length (awB.flatMap u8c)) => scrDecode_any awB (some ⟨w.heap.size, 0, none⟩) 13 W hr hB
  rw [hlen] at hdec hr
  have HB := Lib.hid hB; clear hB; have Hr := Lib.hid hr; clear hr; have Ht := Lib.hid ht; clear ht; have HN := Lib.hid hN; clear hN; have HM := Lib.hid hM; clear hM; have Hc := Lib.hid hc; clear hc; have Hlen := Lib.hid hlen; clear hlen; have Hdec := Lib.hid hdec; clear hdec
  go_enter Try.func9, Try.ntmps9
  go_wp2_with fail
  refine (Hdec.out _ Hr.out).mono ?_
  rintro e w1 ⟨v0, v, rfl, ho0, ho, hk, hn0, hn⟩
  rw [Ht.out]
  rw [HN.out] at ho0
  rw [HM.out, Hc.out] at ho
  obtain ⟨ad0, cap0, rfl, hl0, _⟩ := ownsRow_shape ho0
  obtain ⟨g, cap, rfl, hg⟩ := owns_some ho (by decide)
  have x0 : w1.cell? ⟨g, 0, none⟩ = some (.int .i64 1) := ho.cellAt 0 (by decide)
  have x3 : w1.cell? ⟨g, 3, none⟩ = some (.int .i64 7) := ho.cellAt 3 (by decide)
  have Hk := Lib.hid hk; clear hk; have Ho := Lib.hid ho; clear ho; have Ho0 := Lib.hid ho0; clear ho0; have Hn0 := Lib.hid hn0; clear hn0; have Hn := Lib.hid hn; clear hn
  go_wp2
  go_ret
  exact ⟨rfl, ((Keeps.alloc w _).trans (Hk.out.mono (by simp))).trans (Keeps.alloc _ _)⟩
set_option maxRecDepth 100000 in
set_option maxHeartbeats 1600000 in
theorem scriptDecodes_walk (w : World) (ad : Option Addr) (cap : Nat) (L : List Int) (hr : Reads w 1 (.slice ad L.length cap) L.length (L.flatMap fun z => [Value.int .u8 z])) (hp : ∀ a ∈ L, (Lit.int .u8 a).wf = true) (hm : L.length ≤ maxLen) :
    Calls Try.prog 3 #[.slice ad L.length cap] w fun e w' => e = .returned (.bool true) ∧ Below w.heap.size w w' := by
  unfold maxLen at hm
  by_cases hl : 1200 < L.length
  · have Hr := Lib.hid hr; clear hr; have Hp := Lib.hid hp; clear hp
    go_enter Try.func3, Try.ntmps3
    go_wp2_with (go_at_call 9; refine (awake27_any _).mono ?_; rintro e w1 ⟨rfl, hk⟩)
    go_ret
    exact ⟨rfl, hk.below (by simp) (Nat.le_refl _)⟩
  · have hl' : L.length ≤ 1200 := by omega
    have hr' : Reads w 1 (.slice ad L.length cap) L.length (L.flatMap u8c) := hr
    have hB : ByOk L := ⟨fun z hz => wf_u8 (hp z hz), by omega⟩
    obtain ⟨t0, t2, t3, t4, t5, t6, ht⟩ : ∃ t0 t2 t3 t4 t5 t6 : Int, ∀ v, (scrTerms L).cells v = #[.int .i64 t0, v, .int .i64 t2, .int .i64 t3, .int .i64 t4, .int .i64 t5, .int .i64 t6] := ⟨_, _, _, _, _, _, fun v => rfl⟩
    have hN := scrTrs_length L (scrN L)
    have hM := scrCmds_length L (scrM L)
    have hN3 := scrN_bd hB
    have hM2 : scrM L ≤ 200 := by unfold scrM; omega
    have Hr := Lib.hid hr; clear hr; have Hp := Lib.hid hp; clear hp; have Hr' := Lib.hid hr'; clear hr'; have HB := Lib.hid hB; clear hB; have Ht := Lib.hid ht; clear ht; have HN := Lib.hid hN; clear hN; have HM := Lib.hid hM; clear hM; have HN3 := Lib.hid hN3; clear hN3
    go_enter Try.func3, Try.ntmps3
    go_wp2_with fail
    refine (ownByte_any _ _ _ L _ Hr'.out (by omega)).mono ?_
    rintro e w1 ⟨rfl, ho1, hk1⟩
    have Ho1 := Lib.hid ho1
    have Hk1 := Lib.hid hk1
    clear ho1 hk1
    have hin : Reads w1 1 (.slice (some ⟨w.heap.size, 0, none⟩) L.length (L.length + 3)) L.length (L.flatMap u8c) := by
      have := Ho1.out.reads (L.length + 3) (by omega) L.length (by omega) (by omega)
      simpa using this
    have Hin := Lib.hid hin
    clear hin
    go_wp2_with fail
    refine (scrDecode_any L _ _ _ Hin.out HB.out).mono ?_
    rintro e w2 ⟨v0, v, rfl, ha0, ha, hk2, hn0, hn⟩
    rw [Ht.out]
    obtain ⟨ad0, cap0, rfl, _, _⟩ := ownsRow_shape ha0
    obtain ⟨ad1, cap1, rfl, _, _⟩ := ownsRow_shape ha
    have Ha0 := Lib.hid ha0
    have Ha := Lib.hid ha
    have Hk2 := Lib.hid hk2
    clear ha0 ha hk2 hn0 hn
    have hk02 : Keeps (fun _ => False) w w2 := Hk1.out.trans (Hk2.out.mono (by simp))
    have Hk02 := Lib.hid hk02
    clear hk02
    go_wp2_with fail
    refine (rscrDecode_any L _ _ _ ((Hr'.out.keeps Hk02.out (by simp)).alloc _) HB.out).mono ?_
    rintro e w3 ⟨u0, u, rfl, hb0, hb, hk3, hn0, hn⟩
    rw [Ht.out]
    obtain ⟨bd0, bap0, rfl, _, _⟩ := ownsRow_shape hb0
    obtain ⟨bd1, bap1, rfl, _, _⟩ := ownsRow_shape hb
    have hx3 := box_new hk3 (by simp)
    have Hb0 := Lib.hid hb0
    have Hb := Lib.hid hb
    have Hk3 := Lib.hid hk3
    have Hx3 := Lib.hid hx3
    clear hb0 hb hk3 hn0 hn hx3
    have hk24 : Keeps (fun _ => False) w2 w3 := (Keeps.alloc _ _).trans (Hk3.out.mono (by simp))
    have Hk24 := Lib.hid hk24
    clear hk24
    go_wp2_with fail
    refine (awake27_any _).mono ?_
    rintro e w4 ⟨rfl, hk4⟩
    have hx4 := box_old (box_alloc Hx3.out _) hk4 (by simp)
    have hy4 := box_new hk4 (by simp)
    have xa := cell_of_cells hx4
    have xb := cell_of_cells hy4
    have xl := lt_of_block hx4
    have yl := lt_of_block hy4
    have hk34 : Keeps (fun _ => False) w3 w4 := (Keeps.alloc _ _).trans (hk4.mono (by simp))
    have Hk34 := Lib.hid hk34
    clear hk4 hx4 hy4 hk34
    have ha0' : Reads w4 2 (.slice ad0 (scrN L) cap0) (scrTrs L (scrN L)).length ((scrTrs L (scrN L)).flatMap Tr.cells) := by rw [HN.out]; exact (Reads.of_owns Ha0.out).keeps (Hk24.out.trans (Hk34.out.mono (by simp))) (by simp)
    have hb0' : Reads w4 2 (.slice bd0 (scrN L) bap0) (scrTrs L (scrN L)).length ((scrTrs L (scrN L)).flatMap Tr.cells) := by rw [HN.out]; exact (Reads.of_owns Hb0.out).keeps Hk34.out (by simp)
    have ha' : Reads w4 5 (.slice ad1 (scrM L) cap1) (scrCmds L (scrM L)).length ((scrCmds L (scrM L)).flatMap Cmd.cells) := by rw [HM.out]; exact (Reads.of_owns Ha.out).keeps (Hk24.out.trans (Hk34.out.mono (by simp))) (by simp)
    have hb' : Reads w4 5 (.slice bd1 (scrM L) bap1) (scrCmds L (scrM L)).length ((scrCmds L (scrM L)).flatMap Cmd.cells) := by rw [HM.out]; exact (Reads.of_owns Hb.out).keeps Hk34.out (by simp)
    have ho4 : OwnAt u8c 5 w4 w.heap.size L 71 := ⟨box_old (box_old (box_old Ho1.out.blk Hk2.out (by simp)) Hk24.out (by simp)) Hk34.out (by simp)⟩
    have hr4 : Reads w4 1 (.slice ad L.length cap) L.length (L.flatMap u8c) := ((Hr'.out.keeps Hk02.out (by simp)).keeps Hk24.out (by simp)).keeps Hk34.out (by simp)
    have hk04 : Keeps (fun _ => False) w w4 := (Hk02.out.trans (Hk24.out.mono (by simp))).trans (Hk34.out.mono (by simp))
    have hnl : (scrTrs L (scrN L)).length ≤ 1000000000000 := by rw [HN.out]; have := HN3.out; omega
    have hml : (scrCmds L (scrM L)).length ≤ 1000000000000 := by rw [HM.out]; omega
    have Ha0' := Lib.hid ha0'; clear ha0'; have Hb0' := Lib.hid hb0'; clear hb0'; have Ha' := Lib.hid ha'; clear ha'; have Hb' := Lib.hid hb'; clear hb'; have Ho4 := Lib.hid ho4; clear ho4; have Hr4 := Lib.hid hr4; clear hr4; have Hk04 := Lib.hid hk04; clear hk04; have Hnl := Lib.hid hnl; clear hnl; have Hml := Lib.hid hml; clear hml
    go_wp2_with (first
      | (go_at_call 13; refine (sameTerms_any _ _ _ _ _ _ _ _ _ _ Ha0'.out Hb0'.out Hnl.out).mono ?_; rintro e w5 ⟨rfl, hk5⟩; have Hk5 := Lib.hid hk5; clear hk5)
      | (go_at_call 14; refine (plainCmd_same _ _ _ _ (Ha'.out.keeps Hk5.out (by simp)) (Hb'.out.keeps Hk5.out (by simp)) Hml.out).mono ?_; rintro e w6 ⟨rfl, hk6⟩; have Hk6 := Lib.hid (Hk5.out.trans (hk6.mono (by simp))); clear hk6)
      | (go_at_call 15; refine (keptByte_any _ _ _ L _ _ ⟨box_old Ho4.out.blk Hk6.out (by simp)⟩ (Hr4.out.keeps Hk6.out (by simp)) (by omega)).mono ?_; rintro e w7 ⟨rfl, hk7⟩; have Hk7 := Lib.hid (Hk6.out.trans (hk7.mono (by simp))); clear hk7))
    go_ret
    exact ⟨rfl, (Hk04.out.trans (Hk7.out.mono (by simp))).below (by simp) (Nat.le_refl _)⟩
end Go.Proofs.Ythokcmbgamanbaa
