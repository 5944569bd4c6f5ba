/- The law's helpers at bytes, terms, commands: Kept, CopyBytes, Plain, Terms. -/
import Derived.Test.YthokcmbgamanbaaScrPlain
import Derived.Test.YthokcmbgamanbaaOwn
namespace Go.Proofs.Ythokcmbgamanbaa
open Go.RowKit
set_option maxRecDepth 100000 in
set_option maxHeartbeats 400000 in
theorem plainCmd1_same (a0 : Int) (a1 : Int) (a2 : Int) (a3 : Int) (a4 : Int) (w : World) : Calls Try.prog 34 #[.agg #[.int .i64 a0, .int .i64 a1, .int .i64 a2, .int .i64 a3, .int .i64 a4], .agg #[.int .i64 a0, .int .i64 a1, .int .i64 a2, .int .i64 a3, .int .i64 a4]] w
    fun e w' => e = .returned (.bool true) ∧ Keeps (fun _ => False) w w' := by
  go_enter Try.func34, Try.ntmps34
  go_wp2
  go_ret
  exact ⟨rfl, (Keeps.alloc _ _).trans (Keeps.alloc _ _)⟩
set_option maxRecDepth 100000 in
set_option maxHeartbeats 400000 in
theorem sameCmd_same (L : List Cmd) (v1 v2 : Value) (w : World) (h1 : Reads w 5 v1 L.length (L.flatMap Cmd.cells)) (h2 : Reads w 5 v2 L.length (L.flatMap Cmd.cells)) (hl : L.length ≤ 1000000000000) :
    Calls Try.prog 33 #[v1, v2, .func (.func 34) #[] #[]] w fun e w' => e = .returned (.bool true) ∧ Keeps (fun _ => False) w w' := by
  have g1 := h1
  have g2 := h2
  obtain ⟨ad1, c1, rfl, _, _⟩ := g1
  obtain ⟨ad2, c2, rfl, _, _⟩ := g2
  have H1 := Lib.hid h1; clear h1; have H2 := Lib.hid h2; clear h2
  go_enter Try.func33, Try.ntmps33
  go_wp2
  go_loopw [7] (fun i wr => ∃ k : Nat, k ≤ L.length ∧ i = .int .i64 k ∧ Keeps (fun _ => False) w wr) (fun i _ => L.length - (intOf i).toNat)
  case atStart => exact ⟨0, Nat.zero_le _, rfl, Keeps.refl _ _⟩
  case round =>
    obtain ⟨k, hk, rfl, hkp⟩ := hrel
    have Hkp := Lib.hid hkp; clear hkp
    by_cases hlt : k < L.length
    · obtain ⟨x, hx⟩ : ∃ x, L[k]? = some x := ⟨L[k], List.getElem?_eq_getElem hlt⟩
      obtain ⟨g, o, c, he, hc⟩ := (H1.out.keeps Hkp.out (by simp)).elem Cmd.cells_length hx (by decide)
      obtain ⟨g', o', c', he', hc'⟩ := (H2.out.keeps Hkp.out (by simp)).elem Cmd.cells_length hx (by decide)
      simp only [Value.slice.injEq, true_and] at he he'
      obtain ⟨rfl, rfl⟩ := he
      obtain ⟨rfl, rfl⟩ := he'
      obtain ⟨e0, e1, e2, e3, e4⟩ := x
      have x0 : wr.cell? ⟨g, o + k * 5, none⟩ = some (.int .i64 e0) := hc 0 (by decide)
      have x1 : wr.cell? ⟨g, o + k * 5 + 1, none⟩ = some (.int .i64 e1) := hc 1 (by decide)
      have x2 : wr.cell? ⟨g, o + k * 5 + 2, none⟩ = some (.int .i64 e2) := hc 2 (by decide)
      have x3 : wr.cell? ⟨g, o + k * 5 + 3, none⟩ = some (.int .i64 e3) := hc 3 (by decide)
      have x4 : wr.cell? ⟨g, o + k * 5 + 4, none⟩ = some (.int .i64 e4) := hc 4 (by decide)
      have y0 : wr.cell? ⟨g', o' + k * 5, none⟩ = some (.int .i64 e0) := hc' 0 (by decide)
      have y1 : wr.cell? ⟨g', o' + k * 5 + 1, none⟩ = some (.int .i64 e1) := hc' 1 (by decide)
      have y2 : wr.cell? ⟨g', o' + k * 5 + 2, none⟩ = some (.int .i64 e2) := hc' 2 (by decide)
      have y3 : wr.cell? ⟨g', o' + k * 5 + 3, none⟩ = some (.int .i64 e3) := hc' 3 (by decide)
      have y4 : wr.cell? ⟨g', o' + k * 5 + 4, none⟩ = some (.int .i64 e4) := hc' 4 (by decide)
      clear hc hc'
      have Hx := Lib.hid hx; clear hx
      go_wp2
      go_still_tail 9, (by kernel_rfl)
      go_wp2_with (go_at_call 34; refine (plainCmd1_same _ _ _ _ _ _).mono ?_; rintro e w' ⟨rfl, hk2⟩; have Hk2 := Lib.hid hk2; clear hk2)
      go_roundw
      case rel => exact ⟨k + 1, by omega, by go_num, (Hkp.out.trans ((Keeps.drew _).trans (Hk2.out.mono (by simp))))⟩
      case measure => simp [intOf]; omega
    · go_wp2
      go_ret
      exact ⟨rfl, Hkp.out⟩
set_option maxRecDepth 100000 in
set_option maxHeartbeats 400000 in
theorem plainCmd_same (L : List Cmd) (v1 v2 : Value) (w : World) (h1 : Reads w 5 v1 L.length (L.flatMap Cmd.cells)) (h2 : Reads w 5 v2 L.length (L.flatMap Cmd.cells)) (hl : L.length ≤ 1000000000000) :
    Calls Try.prog 14 #[v1, v2] w fun e w' => e = .returned (.bool true) ∧ Keeps (fun _ => False) w w' := by
  have H1 := Lib.hid h1; clear h1; have H2 := Lib.hid h2; clear h2
  go_enter Try.func14, Try.ntmps14
  go_wp2_with (go_at_call 33; refine (sameCmd_same L _ _ _ H1.out H2.out hl).mono ?_; rintro e w' ⟨rfl, hk2⟩; have Hk2 := Lib.hid hk2; clear hk2)
  go_ret
  exact ⟨rfl, Hk2.out⟩
set_option maxRecDepth 100000 in
set_option maxHeartbeats 400000 in
theorem plainTr1_same (a0 : Int) (a1 : Bool) (w : World) : Calls Try.prog 57 #[.agg #[.int .i64 a0, .bool a1], .agg #[.int .i64 a0, .bool a1]] w
    fun e w' => e = .returned (.bool true) ∧ Keeps (fun _ => False) w w' := by
  go_enter Try.func57, Try.ntmps57
  go_wp2
  go_ret
  exact ⟨rfl, (Keeps.alloc _ _).trans (Keeps.alloc _ _)⟩
set_option maxRecDepth 100000 in
set_option maxHeartbeats 400000 in
theorem sameTr_same (L : List Tr) (v1 v2 : Value) (w : World) (h1 : Reads w 2 v1 L.length (L.flatMap Tr.cells)) (h2 : Reads w 2 v2 L.length (L.flatMap Tr.cells)) (hl : L.length ≤ 1000000000000) :
    Calls Try.prog 56 #[v1, v2, .func (.func 57) #[] #[]] w fun e w' => e = .returned (.bool true) ∧ Keeps (fun _ => False) w w' := by
  have g1 := h1
  have g2 := h2
  obtain ⟨ad1, c1, rfl, _, _⟩ := g1
  obtain ⟨ad2, c2, rfl, _, _⟩ := g2
  have H1 := Lib.hid h1; clear h1; have H2 := Lib.hid h2; clear h2
  go_enter Try.func56, Try.ntmps56
  go_wp2
  go_loopw [7] (fun i wr => ∃ k : Nat, k ≤ L.length ∧ i = .int .i64 k ∧ Keeps (fun _ => False) w wr) (fun i _ => L.length - (intOf i).toNat)
  case atStart => exact ⟨0, Nat.zero_le _, rfl, Keeps.refl _ _⟩
  case round =>
    obtain ⟨k, hk, rfl, hkp⟩ := hrel
    have Hkp := Lib.hid hkp; clear hkp
    by_cases hlt : k < L.length
    · obtain ⟨x, hx⟩ : ∃ x, L[k]? = some x := ⟨L[k], List.getElem?_eq_getElem hlt⟩
      obtain ⟨g, o, c, he, hc⟩ := (H1.out.keeps Hkp.out (by simp)).elem Tr.cells_length hx (by decide)
      obtain ⟨g', o', c', he', hc'⟩ := (H2.out.keeps Hkp.out (by simp)).elem Tr.cells_length hx (by decide)
      simp only [Value.slice.injEq, true_and] at he he'
      obtain ⟨rfl, rfl⟩ := he
      obtain ⟨rfl, rfl⟩ := he'
      obtain ⟨e0, e1⟩ := x
      have x0 : wr.cell? ⟨g, o + k * 2, none⟩ = some (.int .i64 e0) := hc 0 (by decide)
      have x1 : wr.cell? ⟨g, o + k * 2 + 1, none⟩ = some (.bool e1) := hc 1 (by decide)
      have y0 : wr.cell? ⟨g', o' + k * 2, none⟩ = some (.int .i64 e0) := hc' 0 (by decide)
      have y1 : wr.cell? ⟨g', o' + k * 2 + 1, none⟩ = some (.bool e1) := hc' 1 (by decide)
      clear hc hc'
      have Hx := Lib.hid hx; clear hx
      go_wp2
      go_still_tail 9, (by kernel_rfl)
      go_wp2_with (go_at_call 57; refine (plainTr1_same _ _ _).mono ?_; rintro e w' ⟨rfl, hk2⟩; have Hk2 := Lib.hid hk2; clear hk2)
      go_roundw
      case rel => exact ⟨k + 1, by omega, by go_num, (Hkp.out.trans ((Keeps.drew _).trans (Hk2.out.mono (by simp))))⟩
      case measure => simp [intOf]; omega
    · go_wp2
      go_ret
      exact ⟨rfl, Hkp.out⟩
set_option maxRecDepth 100000 in
set_option maxHeartbeats 400000 in
theorem plainTr_same (L : List Tr) (v1 v2 : Value) (w : World) (h1 : Reads w 2 v1 L.length (L.flatMap Tr.cells)) (h2 : Reads w 2 v2 L.length (L.flatMap Tr.cells)) (hl : L.length ≤ 1000000000000) :
    Calls Try.prog 32 #[v1, v2] w fun e w' => e = .returned (.bool true) ∧ Keeps (fun _ => False) w w' := by
  have H1 := Lib.hid h1; clear h1; have H2 := Lib.hid h2; clear h2
  go_enter Try.func32, Try.ntmps32
  go_wp2_with (go_at_call 56; refine (sameTr_same L _ _ _ H1.out H2.out hl).mono ?_; rintro e w' ⟨rfl, hk2⟩; have Hk2 := Lib.hid hk2; clear hk2)
  go_ret
  exact ⟨rfl, Hk2.out⟩
set_option maxRecDepth 100000 in
set_option maxHeartbeats 400000 in
theorem plainByte1_same (a : Int) (w : World) : Calls Try.prog 59 #[.int .u8 a, .int .u8 a] w
    fun e w' => e = .returned (.bool true) ∧ w = w' := by
  go_enter Try.func59, Try.ntmps59
  go_wp2
  go_ret
  exact ⟨rfl, rfl⟩
set_option maxRecDepth 100000 in
set_option maxHeartbeats 400000 in
theorem sameByte_same (L : List Int) (v1 v2 : Value) (w : World) (h1 : Reads w 1 v1 L.length (L.flatMap u8c)) (h2 : Reads w 1 v2 L.length (L.flatMap u8c)) (hl : L.length ≤ 1000000000000) :
    Calls Try.prog 58 #[v1, v2, .func (.func 59) #[] #[]] w fun e w' => e = .returned (.bool true) ∧ Keeps (fun _ => False) w w' := by
  have g1 := h1
  have g2 := h2
  obtain ⟨ad1, c1, rfl, _, _⟩ := g1
  obtain ⟨ad2, c2, rfl, _, _⟩ := g2
  have H1 := Lib.hid h1; clear h1; have H2 := Lib.hid h2; clear h2
  go_enter Try.func58, Try.ntmps58
  go_wp2
  go_loopw [7] (fun i wr => ∃ k : Nat, k ≤ L.length ∧ i = .int .i64 k ∧ Keeps (fun _ => False) w wr) (fun i _ => L.length - (intOf i).toNat)
  case atStart => exact ⟨0, Nat.zero_le _, rfl, Keeps.refl _ _⟩
  case round =>
    obtain ⟨k, hk, rfl, hkp⟩ := hrel
    have Hkp := Lib.hid hkp; clear hkp
    by_cases hlt : k < L.length
    · obtain ⟨x, hx⟩ : ∃ x, L[k]? = some x := ⟨L[k], List.getElem?_eq_getElem hlt⟩
      obtain ⟨g, o, c, he, hc⟩ := (H1.out.keeps Hkp.out (by simp)).elem u8c_length hx (by decide)
      obtain ⟨g', o', c', he', hc'⟩ := (H2.out.keeps Hkp.out (by simp)).elem u8c_length hx (by decide)
      simp only [Value.slice.injEq, true_and] at he he'
      obtain ⟨rfl, rfl⟩ := he
      obtain ⟨rfl, rfl⟩ := he'
      have x0 : wr.cell? ⟨g, o + k, none⟩ = some (.int .u8 x) := by have := hc 0 (by decide); simpa [u8c] using this
      have y0 : wr.cell? ⟨g', o' + k, none⟩ = some (.int .u8 x) := by have := hc' 0 (by decide); simpa [u8c] using this
      clear hc hc'
      have Hx := Lib.hid hx; clear hx
      go_wp2
      go_still_tail 9, (by kernel_rfl)
      go_wp2_with (go_at_call 59; refine (plainByte1_same _ _).mono ?_; rintro e w' ⟨rfl, rfl⟩)
      go_roundw
      case rel => exact ⟨k + 1, by omega, by go_num, (Hkp.out.trans (Keeps.drew _))⟩
      case measure => simp [intOf]; omega
    · go_wp2
      go_ret
      exact ⟨rfl, Hkp.out⟩
set_option maxRecDepth 100000 in
set_option maxHeartbeats 400000 in
theorem plainByte_same (L : List Int) (v1 v2 : Value) (w : World) (h1 : Reads w 1 v1 L.length (L.flatMap u8c)) (h2 : Reads w 1 v2 L.length (L.flatMap u8c)) (hl : L.length ≤ 1000000000000) :
    Calls Try.prog 35 #[v1, v2] w fun e w' => e = .returned (.bool true) ∧ Keeps (fun _ => False) w w' := by
  have H1 := Lib.hid h1; clear h1; have H2 := Lib.hid h2; clear h2
  go_enter Try.func35, Try.ntmps35
  go_wp2_with (go_at_call 58; refine (sameByte_same L _ _ _ H1.out H2.out hl).mono ?_; rintro e w' ⟨rfl, hk2⟩; have Hk2 := Lib.hid hk2; clear hk2)
  go_ret
  exact ⟨rfl, Hk2.out⟩
theorem OwnAt.reads {e : TypeId} {w : World} {g : Nat} {L : List Int} {x : Int} (h : OwnAt u8c e w g L x) (c : Nat) (hc : L.length ≤ c) (n : Nat) (hn : n ≤ L.length + 3) (hc' : n ≤ c) : Reads w 1 (.slice (some ⟨g, 0, none⟩) n c) n (((L ++ List.replicate 3 x).take n).flatMap u8c) := by
  refine ⟨_, _, rfl, hc', by rw [flat_length u8c_length]; simp; omega, by simp, fun j u hj => ⟨g, 0, rfl, ?_⟩⟩
  rw [Nat.zero_add, cell_of_cells h.blk, List.getElem?_toArray]
  have e1 := flat_takek u8c_length (L ++ List.replicate 3 x) n
  rw [← e1] at hj
  rw [List.getElem?_take] at hj
  split at hj
  · exact hj
  · simp at hj
set_option maxRecDepth 100000 in
set_option maxHeartbeats 400000 in
theorem keptByte_any (g : Nat) (ad : Option Addr) (cap : Nat) (L : List Int) (x : Int) (w : World) (h : OwnAt u8c 5 w g L x) (hr : Reads w 1 (.slice ad L.length cap) L.length (L.flatMap u8c)) (hl : L.length ≤ 1000000) :
    Calls Try.prog 15 #[.slice (some ⟨g, 0, none⟩) L.length (L.length + 3), .slice ad L.length cap, .int .u8 x] w fun e w' => e = .returned (.bool true) ∧ Keeps (fun _ => False) w w' := by
  have ho : Reads w 1 (.slice (some ⟨g, 0, none⟩) L.length (L.length + 3)) L.length (L.flatMap u8c) := by
    have := h.reads (L.length + 3) (by omega) L.length (by omega) (by omega)
    simpa using this
  have hgl := lt_of_block h.blk
  have H := Lib.hid h; clear h; have Hr := Lib.hid hr; clear hr; have Ho := Lib.hid ho; clear ho
  go_enter Try.func15, Try.ntmps15
  go_wp2_with (go_at_call 35; refine (plainByte_same L _ _ _ Ho.out Hr.out (by omega)).mono ?_; rintro e w1 ⟨rfl, hk1⟩; have Hk1 := Lib.hid hk1; clear hk1)
  go_loop [8] (fun c => ∃ (j : Nat), j ≤ 3 ∧ c = .int .i64 ((L.length + j : Nat) : Int)) (fun c => L.length + 3 - (intOf c).toNat)
  case atStart => exact ⟨0, by omega, by simp⟩
  case round =>
    obtain ⟨j, hj, rfl⟩ := hrel
    by_cases hj3 : j < 3
    · have hc : w1.cell? ⟨g, L.length + j, none⟩ = some (.int .u8 x) := by
        rw [(Hk1.out.cell (p := ⟨g, L.length + j, none⟩) hgl (by simp)), cell_of_cells H.out.blk, List.getElem?_toArray]
        have := flat_get u8c_length (L := L ++ List.replicate 3 x) (k := L.length + j) (j := 0) (x := x) (by rw [List.getElem?_append_right (by omega), Nat.add_sub_cancel_left, List.getElem?_replicate, if_pos hj3]) (by decide)
        simpa [u8c] using this
      have hjl : ((L.length + j : Nat) : Int) < (L.length : Int) + 3 := by omega
      go_wp2
      go_round
      case rel => exact ⟨j + 1, by omega, by go_num⟩
      case measure => simp [intOf]; omega
    · obtain rfl : j = 3 := by omega
      go_wp2
      go_ret
      exact ⟨rfl, Hk1.out⟩
set_option maxRecDepth 100000 in
set_option maxHeartbeats 400000 in
theorem copyBytes_any (w : World) (v : Value) (L : List Int) (hr : Reads w 1 v L.length (L.flatMap u8c)) (hl : L.length ≤ 1000000) :
    Calls Try.prog 16 #[v] w fun e w' => ∃ v', e = .returned v' ∧ w'.ownsRow 0 5 1 v' L.length (L.flatMap u8c) ∧ Keeps (fun _ => False) w w' ∧ (∀ k, v'.ownBlock = some k → w.heap.size ≤ k) := by
  obtain ⟨i0, hi, hi0, hi1, hi2⟩ := info_parts info_tByte
  have hone := u8c_one L
  have Hr := Lib.hid hr; clear hr; have Hone := Lib.hid hone; clear hone
  go_enter Try.func16, Try.ntmps16
  go_wp2_with (at_builtin; refine wpList_append_row rfl (.const (.slice none 0 0)) (.tmp 3) 22 rfl 0 5 i0 _ 1 1 Try.underlying22 hi hi0 hi1 hi2 rfl (by decide) (.slice none 0 0) 0 [] rfl (World.ownsRow_nil _ _ _ _) _ L.length _ rfl Hr.out Hone.out (by unfold maxLen; omega) (by omega) (by omega) ?_)
  intro v' w1 ho hk hf
  have hF := (Fresh.nil w).app hk hf
  have ho' : w1.ownsRow 0 5 1 v' L.length (L.flatMap u8c) := by simpa using ho
  clear ho
  have Ho' := Lib.hid ho'; clear ho'; have HF := Lib.hid hF; clear hF
  clear hk hf
  go_wp2
  go_ret
  exact ⟨_, rfl, Ho'.out, HF.out.1, HF.out.2⟩
def Tm.val (t : Tm) (v : Value) : Value := .agg (t.cells v)
set_option maxRecDepth 100000 in
set_option maxHeartbeats 400000 in
theorem sameTerms_any (t0 t2 t3 t4 t5 t6 : Int) (L : List Tr) (v1 v2 : Value) (w : World) (h1 : Reads w 2 v1 L.length (L.flatMap Tr.cells)) (h2 : Reads w 2 v2 L.length (L.flatMap Tr.cells)) (hl : L.length ≤ 1000000000000) :
    Calls Try.prog 13 #[.agg #[.int .i64 t0, v1, .int .i64 t2, .int .i64 t3, .int .i64 t4, .int .i64 t5, .int .i64 t6], .agg #[.int .i64 t0, v2, .int .i64 t2, .int .i64 t3, .int .i64 t4, .int .i64 t5, .int .i64 t6]] w fun e w' => e = .returned (.bool true) ∧ Keeps (fun _ => False) w w' := by
  have g1 := h1
  have g2 := h2
  obtain ⟨ad1, c1, rfl, _, _⟩ := g1
  obtain ⟨ad2, c2, rfl, _, _⟩ := g2
  have H1 := Lib.hid h1; clear h1; have H2 := Lib.hid h2; clear h2
  go_enter Try.func13, Try.ntmps13
  go_wp2_with (go_at_call 32; refine (plainTr_same L _ _ _ ((H1.out.alloc _).alloc _) ((H2.out.alloc _).alloc _) hl).mono ?_; rintro e w1 ⟨rfl, hk1⟩; have hb1 := box_old (box_alloc (heap_alloc_new w _) _) hk1 (by simp); have hb2 := box_new hk1 (by simp); simp only [World.size_alloc] at hb2; have xa := cell_of_cells hb1; have xb := cell_of_cells hb2; have xl1 := lt_of_block hb1; have xl2 := lt_of_block hb2; have Hk1 := Lib.hid hk1; clear hk1 hb1 hb2)
  go_ret
  exact ⟨rfl, ((Keeps.alloc _ _).trans (Keeps.alloc _ _)).trans (Hk1.out.mono (by simp))⟩
end Go.Proofs.Ythokcmbgamanbaa
