/- The walks of texts: numbers, dates, lines. -/
import Derived.Test.YthokcmbgamanbaaDoorTxtPl
import Derived.Test.YthokcmbgamanbaaDoorShelf
import Derived.Test.YthokcmbgamanbaaDoorDay3
import Derived.Test.YthokcmbgamanbaaDoorConvB
import Derived.Lib.AppendIntMem
import Derived.Deep.DeepCutAuto
import Derived.Deep.CutBlock
namespace Go.Proofs.YthokcmbgamanbaaDoor
open Go.RowKit
/-- The table of powers is there. -/
def Tab (w : World) : Prop := Lib.TabIs Tryd.prog w "internal/strconv.uint64pow10" .u64 Lib.pow10Tab
theorem Tab.keeps {w w' : World} (h : Tab w) (hk : Keeps (fun _ => False) w w') : Tab w' := Lib.tabBelow_of_tabIs h w' (hk.below (by simp) (Nat.le_refl _))
theorem Keeps.grow (w : World) (k : Nat) (os : Array Obj) : Keeps (fun _ => False) w (Sort.grow (w.drewN k) os) := (Keeps.of_below (Lib.below_grow w.heap.size w (Nat.le_refl _) k os)).mono (fun k hk hB => by omega)
theorem strItoa_any (n : Int) (w : World) (h0 : 0 ≤ n) (h1 : n ≤ 2000000000000000) (ht : Tab w) : Calls Tryd.prog 26 #[.int .i64 n] w fun e w' => e = .returned (.string (tx (Lib.itoa n))) ∧ Keeps (fun _ => False) w w' := by
  refine (Tryd.strconv_Itoa n (by omega) (by omega) w ht).mono ?_
  rintro e w' ⟨rfl, k, os, rfl⟩
  exact ⟨rfl, Keeps.grow w k os⟩
theorem strFormatInt_any (n : Int) (w : World) (h0 : 0 ≤ n) (h1 : n ≤ 2000000000000000) (ht : Tab w) : Calls Tryd.prog 47 #[.int .i64 n, .int .i64 10] w fun e w' => e = .returned (.string (tx (Lib.itoa n))) ∧ Keeps (fun _ => False) w w' := by
  refine (Tryd.strconv_FormatInt_10 n (by omega) (by omega) w ht).mono ?_
  rintro e w' ⟨rfl, k, os, rfl⟩
  exact ⟨rfl, Keeps.grow w k os⟩
set_option maxRecDepth 100000 in
set_option maxHeartbeats 400000 in
theorem pageTwo_any (n : Int) (w : World) (h0 : 0 ≤ n) (h1 : n < 100) (ht : Tab w) : Calls Tryd.prog 46 #[.int .i64 n] w fun e w' => e = .returned (.string (tx (twoT n))) ∧ Keeps (fun _ => False) w w' := by
  have hc := strItoa_any n w h0 (by omega) ht
  have hsz : (tx (Lib.itoa n)).size ≤ 21 := by rw [tx_size]; exact itoa_le (by omega)
  obtain ⟨X, hX⟩ : ∃ X, tx (Lib.itoa n) = X := ⟨_, rfl⟩
  rw [hX] at hc hsz
  have Hc := Lib.hid hc; clear hc; have HX := Lib.hid hX; clear hX; have Ht := Lib.hid ht; clear ht
  by_cases hn : n < 10
  · go_enter Tryd.func46, Tryd.ntmps46
    go_wp2_with (go_at_call 26; (with_reducible refine Hc.out.mono ?_); rintro e w1 ⟨rfl, hk1⟩; have Hk1 := Lib.hid hk1; clear hk1)
    go_ret
    refine ⟨?_, Hk1.out⟩
    rw [← HX.out, ← two_lt h0 hn]
    show _ = Ending.returned (.string (tx ([48] ++ Lib.itoa n)))
    rw [← tx_app]; rfl
  · go_enter Tryd.func46, Tryd.ntmps46
    go_wp2_with (go_at_call 26; (with_reducible refine Hc.out.mono ?_); rintro e w1 ⟨rfl, hk1⟩; have Hk1 := Lib.hid hk1; clear hk1)
    go_ret
    exact ⟨by rw [← HX.out, two_ge (by omega) h1]; rfl, Hk1.out⟩
theorem ag3 (b0 b1 b2 : Int) (w : World) (o : Obj) (h : o = .cells #[.int .i64 b0, .int .i64 b1, .int .i64 b2] 74) : (w.alloc o).heap[w.heap.size]? = some (.cells #[.int .i64 b0, .int .i64 b1, .int .i64 b2] 74 (0, 0)) := by rw [h]; exact heap_alloc_new w _
def dtS (b : Nat) (x y z : Int) (W : World) : Prop := W.cell? ⟨b, 0, none⟩ = some (.int .i64 x) ∧ W.cell? ⟨b, 1, none⟩ = some (.int .i64 y) ∧ W.cell? ⟨b, 2, none⟩ = some (.int .i64 z)
theorem dtS.keep {b : Nat} {x y z : Int} {W W' : World} (h : dtS b x y z W) (hk : Keeps (fun _ => False) W W') : dtS b x y z W' := by
  obtain ⟨h1, h2, h3⟩ := h
  exact ⟨(hk.cell (cell_lt h1) (by simp)).trans h1, (hk.cell (cell_lt h2) (by simp)).trans h2, (hk.cell (cell_lt h3) (by simp)).trans h3⟩
set_option maxRecDepth 100000 in
set_option maxHeartbeats 800000 in
theorem pageDate_any (n : Int) (w : World) (h0 : -135140 ≤ n) (h1 : n ≤ 2932896) (ht : Tab w) : Calls Tryd.prog 27 #[.int .i64 n] w fun e w' => e = .returned (.string (tx (dateT n))) ∧ Keeps (fun _ => False) w w' := by
    have hd := dayDate_any n w (by omega)
    have hin : dayIn n = true := by simp [dayIn, h0, h1]
    rw [if_pos hin, if_pos hin] at hd
    have hbd := date_bd h0 h1
    obtain ⟨y, hy⟩ : ∃ a, dY n = a := ⟨_, rfl⟩
    obtain ⟨m, hm⟩ : ∃ a, dM n = a := ⟨_, rfl⟩
    obtain ⟨d, hdd⟩ : ∃ a, dD n = a := ⟨_, rfl⟩
    rw [hy, hm, hdd] at hd hbd
    obtain ⟨⟨hy0, hy1⟩, ⟨hm0, hm1⟩, hd0, hd1⟩ := hbd
    have cy := fun W (hW : Keeps (fun _ => False) w W) => strItoa_any y W (by omega) (by omega) (ht.keeps hW)
    have cm := fun W (hW : Keeps (fun _ => False) w W) => pageTwo_any m W (by omega) (by omega) (ht.keeps hW)
    have cd := fun W (hW : Keeps (fun _ => False) w W) => pageTwo_any d W (by omega) (by omega) (ht.keeps hW)
    have sy : (tx (Lib.itoa y)).size ≤ 21 := by rw [tx_size]; exact itoa_le (by omega)
    have sm : (tx (twoT m)).size ≤ 2 := by rw [tx_size]; exact Nat.le_refl _
    have sd : (tx (twoT d)).size ≤ 2 := by rw [tx_size]; exact Nat.le_refl _
    obtain ⟨Y, hY⟩ : ∃ X, tx (Lib.itoa y) = X := ⟨_, rfl⟩
    obtain ⟨M, hM⟩ : ∃ X, tx (twoT m) = X := ⟨_, rfl⟩
    obtain ⟨D, hD⟩ : ∃ X, tx (twoT d) = X := ⟨_, rfl⟩
    rw [hY] at cy sy
    rw [hM] at cm sm
    rw [hD] at cd sd
    have Hin := Lib.hid hin; clear hin; have Hy := Lib.hid hy; clear hy; have Hm := Lib.hid hm; clear hm; have Hdd := Lib.hid hdd; clear hdd; have Hd := Lib.hid hd; clear hd; have Cy := Lib.hid cy; clear cy; have Cm := Lib.hid cm; clear cm; have Cd := Lib.hid cd; clear cd; have HY := Lib.hid hY; clear hY; have HM := Lib.hid hM; clear hM; have HD := Lib.hid hD; clear hD
    go_enter Tryd.func27, Tryd.ntmps27
    go_wp2_with fail
    refine Hd.out.mono ?_
    rintro e w1 ⟨rfl, hk1⟩
    obtain ⟨w2, hw2⟩ : ∃ x, x = w1.alloc (.cells #[.int .i64 y, .int .i64 m, .int .i64 d] 74) := ⟨_, rfl⟩
    have hk2 : Keeps (fun _ => False) w w2 := by rw [hw2]; exact hk1.nt (Keeps.alloc _ _)
    have hbx : w2.heap[w1.heap.size]? = some (.cells #[.int .i64 y, .int .i64 m, .int .i64 d] 74 (0, 0)) := by rw [hw2]; exact heap_alloc_new w1 _
    have hS : dtS w1.heap.size y m d w2 := ⟨cell_of_cells hbx 0, cell_of_cells hbx 1, cell_of_cells hbx 2⟩
    have Hk1 := Lib.hid hk1; clear hk1; have Hk2 := Lib.hid hk2; clear hk2; have Hbx := Lib.hid hbx; clear hbx; have HS := Lib.hid hS; clear hS
    go_upto_region 2 with fail
    rw [← hw2]
    have Hw2 := Lib.hid hw2
    clear hw2
    obtain ⟨b, hb⟩ : ∃ b, b = w1.heap.size := ⟨_, rfl⟩
    rw [← hb] at HS
    rw [← hb]
    have Hb := Lib.hid hb
    clear hb
    refine wp_region_mixw (dtS b y m d) (.take 0 (.take 1 (.take 4 (.take 5 (.take 9 (.take 10 (.move 2 (.take 3 (.move 6 (.take 7 (.take 8 (.move 11 (.take 12 (.take 13 .done)))))))))))))) (by kernel_rfl) (by kernel_rfl) ?_ ?_
    · exact HS.out.keep (Keeps.drew _)
    intro w3 hs3 hk3
    have hk03 := Hk2.out.nt hk3
    repeat (first
      | (refine mix_skip rfl (by rfl) ?_; try simp only [Act.put, List.setIfInBounds_toArray, List.set_cons_zero, List.set_cons_succ])
      | (refine mix_skipm rfl (by rfl) ?_; try simp only [Act.put, List.setIfInBounds_toArray, List.set_cons_zero, List.set_cons_succ])
      | (refine mix_take (v := ?_) rfl (by rfl) ?_ ?_; rotate_left; (· intro w' hSw; unfold dtS at hSw; go_simp; (try rw [if_neg (by omega)]); (try with_reducible rfl)); rotate_right; try simp only [Act.put, List.setIfInBounds_toArray, List.set_cons_zero, List.set_cons_succ]))
    refine mix_move rfl (fun K hK => ?_)
    go_simp
    go_at_call 26
    ((with_reducible refine (Cy.out _ hk03).mono ?_); rintro e w4 ⟨rfl, hk4⟩; dsimp only)
    refine hK.out _ _ (by exact hs3.keep hk4) ?_
    clear hK K
    try simp only [Act.put, List.setIfInBounds_toArray, List.set_cons_zero, List.set_cons_succ]
    have hs4 := hs3.keep hk4
    have hk04 := hk03.nt hk4
    have Hk03 := Lib.hid hk03; clear hk03; have Hk3 := Lib.hid hk3; clear hk3; have Hk4 := Lib.hid hk4; clear hk4; have Hs3 := Lib.hid hs3; clear hs3; have Hs4 := Lib.hid hs4; clear hs4; have Hk04 := Lib.hid hk04; clear hk04
    repeat (first
      | (refine mix_skip rfl (by rfl) ?_; try simp only [Act.put, List.setIfInBounds_toArray, List.set_cons_zero, List.set_cons_succ])
      | (refine mix_skipm rfl (by rfl) ?_; try simp only [Act.put, List.setIfInBounds_toArray, List.set_cons_zero, List.set_cons_succ])
      | (refine mix_take (v := ?_) rfl (by rfl) ?_ ?_; rotate_left; (· intro w' hSw; unfold dtS at hSw; go_simp; (try rw [if_neg (by omega)]); (try with_reducible rfl)); rotate_right; try simp only [Act.put, List.setIfInBounds_toArray, List.set_cons_zero, List.set_cons_succ]))
    refine mix_move rfl (fun K hK => ?_)
    go_simp
    go_at_call 46
    ((with_reducible refine (Cm.out _ Hk04.out).mono ?_); rintro e w5 ⟨rfl, hk5⟩; dsimp only)
    refine hK.out _ _ (by exact Hs4.out.keep hk5) ?_
    clear hK K
    try simp only [Act.put, List.setIfInBounds_toArray, List.set_cons_zero, List.set_cons_succ]
    have hs5 := Hs4.out.keep hk5
    have hk05 := Hk04.out.nt hk5
    have Hk5 := Lib.hid hk5; clear hk5; have Hs5 := Lib.hid hs5; clear hs5; have Hk05 := Lib.hid hk05; clear hk05
    repeat (first
      | (refine mix_skip rfl (by rfl) ?_; try simp only [Act.put, List.setIfInBounds_toArray, List.set_cons_zero, List.set_cons_succ])
      | (refine mix_skipm rfl (by rfl) ?_; try simp only [Act.put, List.setIfInBounds_toArray, List.set_cons_zero, List.set_cons_succ])
      | (refine mix_take (v := ?_) rfl (by rfl) ?_ ?_; rotate_left; (· intro w' hSw; unfold dtS at hSw; go_simp; (try rw [if_neg (by omega)]); (try with_reducible rfl)); rotate_right; try simp only [Act.put, List.setIfInBounds_toArray, List.set_cons_zero, List.set_cons_succ]))
    refine mix_move rfl (fun K hK => ?_)
    go_simp
    go_at_call 46
    ((with_reducible refine (Cd.out _ Hk05.out).mono ?_); rintro e w6 ⟨rfl, hk6⟩; dsimp only)
    refine hK.out _ _ (by exact Hs5.out.keep hk6) ?_
    clear hK K
    try simp only [Act.put, List.setIfInBounds_toArray, List.set_cons_zero, List.set_cons_succ]
    have hk06 := Hk05.out.nt hk6
    have Hk6 := Lib.hid hk6; clear hk6; have Hk06 := Lib.hid hk06; clear hk06
    repeat (first
      | (refine mix_skip rfl (by rfl) ?_; try simp only [Act.put, List.setIfInBounds_toArray, List.set_cons_zero, List.set_cons_succ])
      | (refine mix_skipm rfl (by rfl) ?_; try simp only [Act.put, List.setIfInBounds_toArray, List.set_cons_zero, List.set_cons_succ])
      | (refine mix_take (v := ?_) rfl (by rfl) ?_ ?_; rotate_left; (· intro w' hSw; unfold dtS at hSw; go_simp; (try rw [if_neg (by omega)]); (try with_reducible rfl)); rotate_right; try simp only [Act.put, List.setIfInBounds_toArray, List.set_cons_zero, List.set_cons_succ]))
    refine mix_done ?_
    go_wp2
    go_ret
    refine ⟨?_, Hk06.out⟩
    have he : tx (dateT n) = Y ++ ⟨#[45]⟩ ++ M ++ ⟨#[45]⟩ ++ D := by
      rw [← HY.out, ← HM.out, ← HD.out]
      have h45 : (⟨#[45]⟩ : ByteArray) = tx [45] := rfl
      rw [h45, tx_app, tx_app, tx_app, tx_app]
      unfold dateT
      rw [Hy.out, Hm.out, Hdd.out]
      simp
    rw [he]
    rfl
theorem strOf_ofs (l : List Nat) (h : ∀ x ∈ l, x < 256) : strOf (l.map fun (n : Nat) => (n : Int)) = tx (l.map UInt8.ofNat) := by
  have h2 : ∀ (l : List Nat) (B : ByteArray), (l.map fun (n : Nat) => (n : Int)).foldl (fun r n => r.push (UInt8.ofNat n.toNat)) B = B ++ tx (l.map UInt8.ofNat) := by
    intro l
    induction l with
    | nil => intro B; apply ByteArray.ext; simp [tx]
    | cons a l ih =>
      intro B
      rw [List.map_cons, List.foldl_cons, ih]
      apply ByteArray.ext
      simp [tx]
  unfold strOf
  rw [h2]
  apply ByteArray.ext
  simp [tx]
set_option maxRecDepth 100000 in
set_option maxHeartbeats 800000 in
theorem helpDigits_any : ∀ (v : Nat), v ≤ 2000000000000000 → ∀ w : World, Calls Tryd.prog 50 #[.int .u64 v] w fun e w' => e = .returned (.string (tx (Lib.decDigits v))) ∧ Keeps (fun _ => False) w w' := by
  intro v
  induction v using Nat.strongRecOn with
  | _ v ih =>
    intro hv w
    have hconv := fun (W : World) (x : Int) => conv_bytes (w := W.alloc (.cells #[.int .u8 x] 5)) Tryd.underlying31 Tryd.underlying5 Tryd.underlying9 (cap := 1) (L := [x]) (Reads.lit W #[.int .u8 x] 5 1 1 rfl)
    simp only [List.length_cons, List.length_nil, Nat.zero_add] at hconv
    by_cases h10 : v < 10
    · have hI : (v : Int) < 10 := by omega
      have w1 : IntKind.u64.wrap (48 + (v : Int)) = 48 + (v : Int) := by simp [IntKind.wrap, IntKind.signed, IntKind.bits]; omega
      have w2 : IntKind.u8.wrap (48 + (v : Int)) = 48 + (v : Int) := by simp [IntKind.wrap, IntKind.signed, IntKind.bits]; omega
      have Ih := Lib.hid ih; clear ih
      go_enter Tryd.func50, Tryd.ntmps50
      go_wp2
      go_ret
      refine ⟨?_, Keeps.alloc _ _⟩
      have he := strOf_ofs [48 + v] (by simp; omega)
      rw [Lib.decDigits_one h10]
      show Ending.returned (.string (strOf [48 + (v : Int)])) = _
      rw [show [48 + (v : Int)] = [48 + v].map fun (n : Nat) => (n : Int) by simp, he]
      rfl
    · have hI : ¬ (v : Int) < 10 := by omega
      obtain ⟨q, hq⟩ : ∃ q, v / 10 = q := ⟨_, rfl⟩
      obtain ⟨r, hr⟩ : ∃ r, v % 10 = r := ⟨_, rfl⟩
      have hqI : (v : Int).tdiv 10 = (q : Int) := by rw [Int.tdiv_eq_ediv_of_nonneg (by omega)]; omega
      have hrI : (v : Int).tmod 10 = (r : Int) := by rw [Int.tmod_eq_emod_of_nonneg (by omega)]; omega
      have w1 : IntKind.u64.wrap (48 + (r : Int)) = 48 + (r : Int) := by simp [IntKind.wrap, IntKind.signed, IntKind.bits]; omega
      have w2 : IntKind.u8.wrap (48 + (r : Int)) = 48 + (r : Int) := by simp [IntKind.wrap, IntKind.signed, IntKind.bits]; omega
      have w3 : IntKind.u64.wrap (q : Int) = (q : Int) := by simp [IntKind.wrap, IntKind.signed, IntKind.bits]; omega
      have hc := fun W => ih q (by omega) (by omega) W
      have hsz : (tx (Lib.decDigits q)).size ≤ 21 := by rw [tx_size, ← itoa_nat]; exact itoa_le (by omega)
      obtain ⟨X, hX⟩ : ∃ X, tx (Lib.decDigits q) = X := ⟨_, rfl⟩
      rw [hX] at hc hsz
      have hs1 : (strOf [48 + (r : Int)]).size ≤ 1 := Nat.le_refl _
      have hconv2 := fun (W : World) (x : Int) => conv_bytes (w := (W.alloc (.cells #[.int .u8 x] 5)).drew) Tryd.underlying31 Tryd.underlying5 Tryd.underlying9 (cap := 1) (L := [x]) ((Reads.lit W #[.int .u8 x] 5 1 1 rfl).keeps (Keeps.drew (S := fun _ => False) _) (by simp))
      simp only [List.length_cons, List.length_nil, Nat.zero_add] at hconv2
      have hfin : tx (Lib.decDigits v) = X ++ strOf [48 + (r : Int)] := by
        have he := strOf_ofs [48 + r] (by simp; omega)
        rw [Lib.decDigits, dif_neg h10, hq, hr, ← tx_app, hX, show [48 + (r : Int)] = [48 + r].map fun (n : Nat) => (n : Int) by simp, he]
        rfl
      have Ih := Lib.hid ih; clear ih; have Hc := Lib.hid hc; clear hc; have HX := Lib.hid hX; clear hX; have Hq := Lib.hid hq; clear hq; have Hr := Lib.hid hr; clear hr; have Hfin := Lib.hid hfin; clear hfin
      go_enter Tryd.func50, Tryd.ntmps50
      go_wp2_with fail
      go_region_with (go_at_call 50; (with_reducible refine (Hc.out _).mono ?_); rintro e w4 ⟨rfl, hk4⟩; (try (have hcv : (convert 31 9 (.slice (some ⟨w.heap.size, 0, none⟩) 1 1)).run Tryd.prog w4 = .ok (.string (strOf [48 + (r : Int)])) w4 := conv_bytes Tryd.underlying31 Tryd.underlying5 Tryd.underlying9 (cap := 1) (L := [48 + (r : Int)]) ((Reads.lit w.drew #[.int .u8 (48 + (r : Int))] 5 1 1 rfl).keeps hk4 (by simp)))); have Hk4 := Lib.hid hk4; clear hk4)
      all_goals (go_wp2; go_ret; refine ⟨by rw [Hfin.out]; rfl, ?_⟩)
      · exact ((Keeps.drew _).nt Hk4.out).nt (Keeps.alloc _ _)
      · exact ((Keeps.alloc w _).nt (Keeps.drew _)).nt Hk4.out
      · exact ((Keeps.alloc w _).nt (Keeps.drew _)).nt Hk4.out
set_option maxRecDepth 100000 in
set_option maxHeartbeats 400000 in
theorem helpNumber_any (n : Int) (w : World) (h0 : 0 ≤ n) (h1 : n ≤ 2000000000000000) : Calls Tryd.prog 40 #[.int .i64 n] w fun e w' => e = .returned (.string (tx (Lib.itoa n))) ∧ Keeps (fun _ => False) w w' := by
  obtain ⟨v, rfl⟩ := Int.eq_ofNat_of_zero_le h0
  have hc := helpDigits_any v (by omega) w
  rw [← itoa_nat] at hc
  have w3 : IntKind.u64.wrap (v : Int) = (v : Int) := by simp [IntKind.wrap, IntKind.signed, IntKind.bits]; omega
  have Hc := Lib.hid hc; clear hc
  go_enter Tryd.func40, Tryd.ntmps40
  go_wp2_with (go_at_call 50; (with_reducible refine Hc.out.mono ?_); rintro e w1 ⟨rfl, hk1⟩; have Hk1 := Lib.hid hk1; clear hk1)
  go_ret
  exact ⟨rfl, Hk1.out⟩
set_option maxRecDepth 100000 in
set_option maxHeartbeats 800000 in
theorem rpageTwo_any (n : Int) (w : World) (h0 : 0 ≤ n) (h1 : n < 100) : Calls Tryd.prog 52 #[.int .i64 n] w fun e w' => e = .returned (.string (tx (twoT n))) ∧ Keeps (fun _ => False) w w' := by
  obtain ⟨v, rfl⟩ := Int.eq_ofNat_of_zero_le h0
  have hconv := fun (W : World) (x y : Int) => conv_bytes (w := W.alloc (.cells #[.int .u8 x, .int .u8 y] 5)) Tryd.underlying31 Tryd.underlying5 Tryd.underlying9 (cap := 2) (L := [x, y]) (Reads.lit W #[.int .u8 x, .int .u8 y] 5 1 2 rfl)
  simp only [List.length_cons, List.length_nil, Nat.zero_add, Nat.reduceAdd] at hconv
  obtain ⟨q, hq⟩ : ∃ q, v / 10 = q := ⟨_, rfl⟩
  obtain ⟨r, hr⟩ : ∃ r, v % 10 = r := ⟨_, rfl⟩
  have hqI : (v : Int).tdiv 10 = (q : Int) := by rw [Int.tdiv_eq_ediv_of_nonneg (by omega)]; omega
  have hrI : (v : Int).tmod 10 = (r : Int) := by rw [Int.tmod_eq_emod_of_nonneg (by omega)]; omega
  have w1 : IntKind.u8.wrap (48 + (q : Int)) = 48 + (q : Int) := by simp [IntKind.wrap, IntKind.signed, IntKind.bits]; omega
  have w2 : IntKind.u8.wrap (48 + (r : Int)) = 48 + (r : Int) := by simp [IntKind.wrap, IntKind.signed, IntKind.bits]; omega
  have hq9 : q < 10 := by omega
  have hr9 : r < 10 := by omega
  have hfin : tx (twoT (v : Int)) = strOf [48 + (q : Int), 48 + (r : Int)] := by
    have he := strOf_ofs [48 + q, 48 + r] (by simp; omega)
    rw [show [48 + (q : Int), 48 + (r : Int)] = [48 + q, 48 + r].map fun (n : Nat) => (n : Int) by simp, he]
    unfold twoT
    rw [Int.toNat_natCast, hq, hr]; rfl
  have Hq := Lib.hid hq; clear hq; have Hr := Lib.hid hr; clear hr; have Hfin := Lib.hid hfin; clear hfin
  go_enter Tryd.func52, Tryd.ntmps52
  go_wp2
  go_ret
  exact ⟨by rw [Hfin.out]; rfl, Keeps.alloc _ _⟩
set_option maxRecDepth 100000 in
set_option maxHeartbeats 800000 in
theorem rpageDate_any (n : Int) (w : World) (h0 : -135140 ≤ n) (h1 : n ≤ 2932896) : Calls Tryd.prog 41 #[.int .i64 n] w fun e w' => e = .returned (.string (tx (dateT n))) ∧ Keeps (fun _ => False) w w' := by
    have hd := rdayDate_any n w (by omega)
    have hin : dayIn n = true := by simp [dayIn, h0, h1]
    rw [if_pos hin, if_pos hin] at hd
    have hbd := date_bd h0 h1
    obtain ⟨y, hy⟩ : ∃ a, dY n = a := ⟨_, rfl⟩
    obtain ⟨m, hm⟩ : ∃ a, dM n = a := ⟨_, rfl⟩
    obtain ⟨d, hdd⟩ : ∃ a, dD n = a := ⟨_, rfl⟩
    rw [hy, hm, hdd] at hd hbd
    obtain ⟨⟨hy0, hy1⟩, ⟨hm0, hm1⟩, hd0, hd1⟩ := hbd
    have cy := fun W (hW : Keeps (fun _ => False) w W) => helpNumber_any y W (by omega) (by omega) 
    have cm := fun W (hW : Keeps (fun _ => False) w W) => rpageTwo_any m W (by omega) (by omega) 
    have cd := fun W (hW : Keeps (fun _ => False) w W) => rpageTwo_any d W (by omega) (by omega) 
    have sy : (tx (Lib.itoa y)).size ≤ 21 := by rw [tx_size]; exact itoa_le (by omega)
    have sm : (tx (twoT m)).size ≤ 2 := by rw [tx_size]; exact Nat.le_refl _
    have sd : (tx (twoT d)).size ≤ 2 := by rw [tx_size]; exact Nat.le_refl _
    obtain ⟨Y, hY⟩ : ∃ X, tx (Lib.itoa y) = X := ⟨_, rfl⟩
    obtain ⟨M, hM⟩ : ∃ X, tx (twoT m) = X := ⟨_, rfl⟩
    obtain ⟨D, hD⟩ : ∃ X, tx (twoT d) = X := ⟨_, rfl⟩
    rw [hY] at cy sy
    rw [hM] at cm sm
    rw [hD] at cd sd
    have Hin := Lib.hid hin; clear hin; have Hy := Lib.hid hy; clear hy; have Hm := Lib.hid hm; clear hm; have Hdd := Lib.hid hdd; clear hdd; have Hd := Lib.hid hd; clear hd; have Cy := Lib.hid cy; clear cy; have Cm := Lib.hid cm; clear cm; have Cd := Lib.hid cd; clear cd; have HY := Lib.hid hY; clear hY; have HM := Lib.hid hM; clear hM; have HD := Lib.hid hD; clear hD
    go_enter Tryd.func41, Tryd.ntmps41
    go_wp2_with fail
    refine Hd.out.mono ?_
    rintro e w1 ⟨rfl, hk1⟩
    obtain ⟨w2, hw2⟩ : ∃ x, x = w1.alloc (.cells #[.int .i64 y, .int .i64 m, .int .i64 d] 74) := ⟨_, rfl⟩
    have hk2 : Keeps (fun _ => False) w w2 := by rw [hw2]; exact hk1.nt (Keeps.alloc _ _)
    have hbx : w2.heap[w1.heap.size]? = some (.cells #[.int .i64 y, .int .i64 m, .int .i64 d] 74 (0, 0)) := by rw [hw2]; exact heap_alloc_new w1 _
    have hS : dtS w1.heap.size y m d w2 := ⟨cell_of_cells hbx 0, cell_of_cells hbx 1, cell_of_cells hbx 2⟩
    have Hk1 := Lib.hid hk1; clear hk1; have Hk2 := Lib.hid hk2; clear hk2; have Hbx := Lib.hid hbx; clear hbx; have HS := Lib.hid hS; clear hS
    go_upto_region 2 with fail
    rw [← hw2]
    have Hw2 := Lib.hid hw2
    clear hw2
    obtain ⟨b, hb⟩ : ∃ b, b = w1.heap.size := ⟨_, rfl⟩
    rw [← hb] at HS
    rw [← hb]
    have Hb := Lib.hid hb
    clear hb
    refine wp_region_mixw (dtS b y m d) (.take 0 (.take 1 (.take 4 (.take 5 (.take 9 (.take 10 (.move 2 (.take 3 (.move 6 (.take 7 (.take 8 (.move 11 (.take 12 (.take 13 .done)))))))))))))) (by kernel_rfl) (by kernel_rfl) ?_ ?_
    · exact HS.out.keep (Keeps.drew _)
    intro w3 hs3 hk3
    have hk03 := Hk2.out.nt hk3
    repeat (first
      | (refine mix_skip rfl (by rfl) ?_; try simp only [Act.put, List.setIfInBounds_toArray, List.set_cons_zero, List.set_cons_succ])
      | (refine mix_skipm rfl (by rfl) ?_; try simp only [Act.put, List.setIfInBounds_toArray, List.set_cons_zero, List.set_cons_succ])
      | (refine mix_take (v := ?_) rfl (by rfl) ?_ ?_; rotate_left; (· intro w' hSw; unfold dtS at hSw; go_simp; (try rw [if_neg (by omega)]); (try with_reducible rfl)); rotate_right; try simp only [Act.put, List.setIfInBounds_toArray, List.set_cons_zero, List.set_cons_succ]))
    refine mix_move rfl (fun K hK => ?_)
    go_simp
    go_at_call 40
    ((with_reducible refine (Cy.out _ hk03).mono ?_); rintro e w4 ⟨rfl, hk4⟩; dsimp only)
    refine hK.out _ _ (by exact hs3.keep hk4) ?_
    clear hK K
    try simp only [Act.put, List.setIfInBounds_toArray, List.set_cons_zero, List.set_cons_succ]
    have hs4 := hs3.keep hk4
    have hk04 := hk03.nt hk4
    have Hk03 := Lib.hid hk03; clear hk03; have Hk3 := Lib.hid hk3; clear hk3; have Hk4 := Lib.hid hk4; clear hk4; have Hs3 := Lib.hid hs3; clear hs3; have Hs4 := Lib.hid hs4; clear hs4; have Hk04 := Lib.hid hk04; clear hk04
    repeat (first
      | (refine mix_skip rfl (by rfl) ?_; try simp only [Act.put, List.setIfInBounds_toArray, List.set_cons_zero, List.set_cons_succ])
      | (refine mix_skipm rfl (by rfl) ?_; try simp only [Act.put, List.setIfInBounds_toArray, List.set_cons_zero, List.set_cons_succ])
      | (refine mix_take (v := ?_) rfl (by rfl) ?_ ?_; rotate_left; (· intro w' hSw; unfold dtS at hSw; go_simp; (try rw [if_neg (by omega)]); (try with_reducible rfl)); rotate_right; try simp only [Act.put, List.setIfInBounds_toArray, List.set_cons_zero, List.set_cons_succ]))
    refine mix_move rfl (fun K hK => ?_)
    go_simp
    go_at_call 52
    ((with_reducible refine (Cm.out _ Hk04.out).mono ?_); rintro e w5 ⟨rfl, hk5⟩; dsimp only)
    refine hK.out _ _ (by exact Hs4.out.keep hk5) ?_
    clear hK K
    try simp only [Act.put, List.setIfInBounds_toArray, List.set_cons_zero, List.set_cons_succ]
    have hs5 := Hs4.out.keep hk5
    have hk05 := Hk04.out.nt hk5
    have Hk5 := Lib.hid hk5; clear hk5; have Hs5 := Lib.hid hs5; clear hs5; have Hk05 := Lib.hid hk05; clear hk05
    repeat (first
      | (refine mix_skip rfl (by rfl) ?_; try simp only [Act.put, List.setIfInBounds_toArray, List.set_cons_zero, List.set_cons_succ])
      | (refine mix_skipm rfl (by rfl) ?_; try simp only [Act.put, List.setIfInBounds_toArray, List.set_cons_zero, List.set_cons_succ])
      | (refine mix_take (v := ?_) rfl (by rfl) ?_ ?_; rotate_left; (· intro w' hSw; unfold dtS at hSw; go_simp; (try rw [if_neg (by omega)]); (try with_reducible rfl)); rotate_right; try simp only [Act.put, List.setIfInBounds_toArray, List.set_cons_zero, List.set_cons_succ]))
    refine mix_move rfl (fun K hK => ?_)
    go_simp
    go_at_call 52
    ((with_reducible refine (Cd.out _ Hk05.out).mono ?_); rintro e w6 ⟨rfl, hk6⟩; dsimp only)
    refine hK.out _ _ (by exact Hs5.out.keep hk6) ?_
    clear hK K
    try simp only [Act.put, List.setIfInBounds_toArray, List.set_cons_zero, List.set_cons_succ]
    have hk06 := Hk05.out.nt hk6
    have Hk6 := Lib.hid hk6; clear hk6; have Hk06 := Lib.hid hk06; clear hk06
    repeat (first
      | (refine mix_skip rfl (by rfl) ?_; try simp only [Act.put, List.setIfInBounds_toArray, List.set_cons_zero, List.set_cons_succ])
      | (refine mix_skipm rfl (by rfl) ?_; try simp only [Act.put, List.setIfInBounds_toArray, List.set_cons_zero, List.set_cons_succ])
      | (refine mix_take (v := ?_) rfl (by rfl) ?_ ?_; rotate_left; (· intro w' hSw; unfold dtS at hSw; go_simp; (try rw [if_neg (by omega)]); (try with_reducible rfl)); rotate_right; try simp only [Act.put, List.setIfInBounds_toArray, List.set_cons_zero, List.set_cons_succ]))
    refine mix_done ?_
    go_wp2
    go_ret
    refine ⟨?_, Hk06.out⟩
    have he : tx (dateT n) = Y ++ ⟨#[45]⟩ ++ M ++ ⟨#[45]⟩ ++ D := by
      rw [← HY.out, ← HM.out, ← HD.out]
      have h45 : (⟨#[45]⟩ : ByteArray) = tx [45] := rfl
      rw [h45, tx_app, tx_app, tx_app, tx_app]
      unfold dateT
      rw [Hy.out, Hm.out, Hdd.out]
      simp
    rw [he]
    rfl
end Go.Proofs.YthokcmbgamanbaaDoor
