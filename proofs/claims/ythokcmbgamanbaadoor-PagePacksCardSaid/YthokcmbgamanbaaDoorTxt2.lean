/- The walks of texts: lines, a statement's text. -/
import Derived.Test.YthokcmbgamanbaaDoorTxt
import Derived.Test.YthokcmbgamanbaaDoorPage2
namespace Go.Proofs.YthokcmbgamanbaaDoor
open Go.RowKit
theorem numsT_take {L : List Int} {j : Nat} {v : Int} (h : L[j]? = some v) : numsT (L.take (j + 1)) = numsT (L.take j) ++ 32 :: Lib.itoa v := by
  rw [take_snoc' h, numsT_snoc]
set_option maxRecDepth 100000 in
set_option maxHeartbeats 800000 in
theorem pageLine_any (wd : List UInt8) (L : List Int) (ad : Option Addr) (cap : Nat) (w : World) (hr : Reads w 1 (.slice ad L.length cap) L.length (L.flatMap i64c)) (hl : L.length ≤ 8) (hL : ∀ v ∈ L, 0 ≤ v ∧ v ≤ 2000000000000000) (hw : wd.length ≤ 100) (ht : Tab w) :
    Calls Tryd.prog 28 #[.string (tx wd), .slice ad L.length cap] w fun e w' => e = .returned (.string (tx (lineT wd L))) ∧ Keeps (fun _ => False) w w' := by
  obtain ⟨X0, hX0⟩ : ∃ X, X = tx wd := ⟨_, rfl⟩
  have hs0 : X0.size ≤ 100 := by rw [hX0, tx_size]; exact hw
  rw [← hX0]
  have Hr := Lib.hid hr; clear hr; have HL := Lib.hid hL; clear hL; have Ht := Lib.hid ht; clear ht; have HX0 := Lib.hid hX0; clear hX0
  go_enter Tryd.func28, Tryd.ntmps28
  go_wp2
  go_loopw [0, 9] (fun x0 x9 wr => ∃ (j : Nat) (X : ByteArray), x9 = .int .i64 (j : Nat) ∧ x0 = .string X ∧ j ≤ L.length ∧ X.size ≤ 100 + 22 * j ∧ Hid (X = tx (wd ++ numsT (L.take j))) ∧ Hid (Keeps (fun _ => False) w wr)) (fun _ x9 _ => L.length - (intOf x9).toNat)
  case atStart => exact ⟨0, X0, rfl, rfl, Nat.zero_le _, hs0, Lib.hid (by rw [HX0.out, List.take_zero]; simp [numsT]), Lib.hid (Keeps.refl _ _)⟩
  case round =>
    obtain ⟨j, X, rfl, rfl, hj, hsX, HX, Hk⟩ := hrel
    obtain ⟨w1, hw1⟩ : ∃ x, x = wr := ⟨_, rfl⟩
    subst hw1
    by_cases hjl : j < L.length
    · obtain ⟨x, hx⟩ := get_some hjl
      have hxb := HL.out x (List.mem_of_getElem? hx)
      obtain ⟨g, o, rfl, x0⟩ := (Hr.out.keeps Hk.out (by simp)).int hx
      have hc := strFormatInt_any x w1 hxb.1 hxb.2 (Ht.out.keeps Hk.out)
      have hsz : (tx (Lib.itoa x)).size ≤ 21 := by rw [tx_size]; exact itoa_le hxb
      obtain ⟨Y, hY⟩ : ∃ X, tx (Lib.itoa x) = X := ⟨_, rfl⟩
      rw [hY] at hc hsz
      have hjI : (j : Int) < (L.length : Int) := by omega
      have Hx := Lib.hid hx; clear hx; have Hxb := Lib.hid hxb; clear hxb; have Hc := Lib.hid hc; clear hc; have HY := Lib.hid hY; clear hY
      go_wp2_with (go_at_call 47; (with_reducible refine Hc.out.mono ?_); rintro e w2 ⟨rfl, hk2⟩; have Hk2 := Lib.hid (Hk.out.nt hk2); clear hk2)
      go_roundw
      case rel =>
        refine ⟨j + 1, _, by go_num, rfl, by omega, ?_, Lib.hid ?_, Hk2⟩
        · simp only [ByteArray.size_append]
          have : (⟨#[32]⟩ : ByteArray).size = 1 := rfl
          omega
        · rw [HX.out, ← HY.out, numsT_take Hx.out, ← List.append_assoc, ← tx_app (wd ++ numsT (L.take j))]
          show _ = _ ++ tx ([32] ++ Lib.itoa x)
          rw [← tx_app [32]]; rfl
      case measure => simp [intOf]; omega
    · obtain rfl : j = L.length := by omega
      rw [List.take_length] at HX
      have hs1 : X.size ≤ 300 := by omega
      clear hsX
      go_wp2
      go_ret
      refine ⟨?_, Hk.out⟩
      rw [HX.out]
      unfold lineT
      rw [← tx_app (wd ++ numsT L)]; rfl
/-- A builder and what is held behind a call. -/
theorem IsB.keeps {T e : TypeId} {B b : Nat} {bs : List Value} {w w' : World} (h : Lib.IsBuilder T e B b bs w) (hk : Keeps (fun _ => False) w w') : Lib.IsBuilder T e B b bs w' := by
  have one : ∀ p, Lib.BuilderAt T e B b p bs w → Lib.BuilderAt T e B b p bs w' := by
    rintro p ⟨h1, v, h2, h3, h4⟩
    exact ⟨h1, v, box_old h2 hk (by simp), hk.row h3 (by simp), h4⟩
  exact h.elim (fun x => .inl (one _ x)) (fun x => .inr (one _ x))
/-- The worlds of a text's walk: the statement's box, the builder with so many bytes. -/
structure PTx (s : Stm) (v : Value) (w : World) (B : Nat) (l : List UInt8) (W : World) : Prop where
  tab : Tab w
  box : W.heap[w.heap.size]? = some (.cells #[.int .i64 s.cycle, .int .i64 s.fr, .int .i64 s.te, .int .i64 s.due, v, .int .i64 s.total, .int .i64 s.credit, .int .i64 s.min, .bool s.grace] 26 (0, 0))
  lt : w.heap.size < B
  bld : Lib.IsBuilder 54 5 B B (Lib.byteCells l) W
  sz : B < W.heap.size
  kp : Keeps (fun _ => False) w W
section
variable {s : Stm} {v : Value} {w W W' : World} {B : Nat} {l : List UInt8}
theorem PTx.keep (h : PTx s v w B l W) (hk : Keeps (fun _ => False) W W') : PTx s v w B l W' :=
  ⟨h.tab, box_old h.box hk (by simp), h.lt, IsB.keeps h.bld hk, Nat.lt_of_lt_of_le h.sz hk.size, h.kp.nt hk⟩
theorem PTx.tabW (h : PTx s v w B l W) : Tab W := h.tab.keeps h.kp
theorem PTx.write (h : PTx s v w B l W) {S : ByteArray} {m : List UInt8} (hS : S = tx m) (hl : l.length + m.length ≤ 100000) :
    Calls Tryd.prog 25 #[(.pointer (some ⟨B, 0, none⟩)), .string S] W fun e w' => e = .returned (.tuple #[.int .i64 S.size, .nilIface]) ∧ PTx s v w B (l ++ m) w' := by
  subst hS
  refine (Tryd.Builder_WriteString B B (Lib.byteCells l) (tx m) W h.bld (by rw [Lib.byteCells_length, tx_size]; omega) (by have := h.sz; omega)).mono ?_
  rintro e w' ⟨rfl, h1, h2⟩
  have hlt := h.lt
  refine ⟨rfl, h.tab, ?_, h.lt, ?_, Nat.lt_of_lt_of_le h.sz h2.size, ?_⟩
  · rw [h2.block _ (by omega)]; exact h.box
  · rw [Lib.byteCells_append]; exact .inr h1
  · exact h.kp.trans ((Keeps.of_below h2).mono fun k _ hk => .inr (by omega))
theorem PTx.start (ht : Tab w) {W1 : World} (hb : W1.heap[w.heap.size]? = some (.cells #[.int .i64 s.cycle, .int .i64 s.fr, .int .i64 s.te, .int .i64 s.due, v, .int .i64 s.total, .int .i64 s.credit, .int .i64 s.min, .bool s.grace] 26 (0, 0))) (hk : Keeps (fun _ => False) w W1) :
    PTx s v w W1.heap.size [] (W1.alloc (.cells #[.pointer none, .slice none 0 0] 54)) :=
  ⟨ht, box_alloc hb _, lt_of_block hb, Lib.fresh_isBuilder _ _ W1, by simp, hk.nt (Keeps.alloc _ _)⟩
end
def p4S (b : Nat) (x y z : Int) (W : World) : Prop := W.cell? ⟨b, 0, none⟩ = some (.int .i64 x) ∧ W.cell? ⟨b, 1, none⟩ = some (.int .i64 y) ∧ W.cell? ⟨b, 2, none⟩ = some (.int .i64 z)
def p5S (b : Nat) (x y : Int) (W : World) : Prop := W.cell? ⟨b, 3, none⟩ = some (.int .i64 x) ∧ W.cell? ⟨b, 7, none⟩ = some (.int .i64 y)
theorem p4S.keep {b : Nat} {x y z : Int} {W W' : World} (h : p4S b x y z W) (hk : Keeps (fun _ => False) W W') : p4S b x y z W' := dtS.keep h hk
theorem p5S.keep {b : Nat} {x y : Int} {W W' : World} (h : p5S b x y W) (hk : Keeps (fun _ => False) W W') : p5S b x y W' :=
  ⟨(hk.cell (cell_lt h.1) (by simp)).trans h.1, (hk.cell (cell_lt h.2) (by simp)).trans h.2⟩
set_option maxRecDepth 100000 in
set_option maxHeartbeats 1600000 in
theorem pageText_ok (s : Stm) (ad : Option Addr) (cap n : Nat) (w : World) (hn : s.lines.length = n) (hr : Reads w 3 (.slice ad n cap) n (s.lines.flatMap Ln.cells)) (hw : s.rightB = true) (ht : Tab w) :
    Calls Tryd.prog 10 #[s.val (.slice ad n cap)] w fun e w' => e = .returned (.string (tx (stmT s))) ∧ Keeps (fun _ => False) w w' := by
  have hR := Stm.right_of hw
  have hright := pageRight_any s ad cap (w.alloc (.cells #[.int .i64 s.cycle, .int .i64 s.fr, .int .i64 s.te, .int .i64 s.due, .slice ad n cap, .int .i64 s.total, .int .i64 s.credit, .int .i64 s.min, .bool s.grace] 26)) (by rw [hn]; exact hr.alloc _) (by have := hR.len; omega)
  rw [hw, hn] at hright
  have hb0 := heap_alloc_new w (.cells #[.int .i64 s.cycle, .int .i64 s.fr, .int .i64 s.te, .int .i64 s.due, .slice ad n cap, .int .i64 s.total, .int .i64 s.credit, .int .i64 s.min, .bool s.grace] 26)
  obtain ⟨cy, fr, te, du, tot, cr, mi, gr, L⟩ := s
  simp only [Stm.val] at hright hr hn hb0 ⊢
  have hcyc := fun W (hW : Tab W) => strItoa_any cy W (by have := hR.cycle; simp only at this; omega) (by have := hR.cycle; simp only at this; omega) hW
  have hfr := fun W (hW : Tab W) => pageDate_any fr W hR.fr.1 hR.fr.2 hW
  have hte := fun W (hW : Tab W) => pageDate_any te W hR.te.1 hR.te.2 hW
  have hdu := fun W (hW : Tab W) => pageDate_any du W hR.due.1 hR.due.2 hW
  have s1 : (tx (Lib.itoa cy)).size ≤ 21 := by rw [tx_size]; exact itoa_le (by have := hR.cycle; simp only at this; omega)
  have s2 : (tx (dateT fr)).size ≤ 30 := by rw [tx_size]; exact dateT_le (date_bd hR.fr.1 hR.fr.2).1
  have s3 : (tx (dateT te)).size ≤ 30 := by rw [tx_size]; exact dateT_le (date_bd hR.te.1 hR.te.2).1
  have s4 : (tx (dateT du)).size ≤ 30 := by rw [tx_size]; exact dateT_le (date_bd hR.due.1 hR.due.2).1
  obtain ⟨X1, hX1⟩ : ∃ X, tx (Lib.itoa cy) = X := ⟨_, rfl⟩
  obtain ⟨X2, hX2⟩ : ∃ X, tx (dateT fr) = X := ⟨_, rfl⟩
  obtain ⟨X3, hX3⟩ : ∃ X, tx (dateT te) = X := ⟨_, rfl⟩
  obtain ⟨X4, hX4⟩ : ∃ X, tx (dateT du) = X := ⟨_, rfl⟩
  rw [hX1] at hcyc s1
  rw [hX2] at hfr s2
  rw [hX3] at hte s3
  rw [hX4] at hdu s4
  have HR := Lib.hid hR; clear hR; have Hright := Lib.hid hright; clear hright; have Hb0 := Lib.hid hb0; clear hb0; have Hn := Lib.hid hn; clear hn; have Hr := Lib.hid hr; clear hr; have Hw := Lib.hid hw; clear hw; have Hcyc := Lib.hid hcyc; clear hcyc; have Hfr := Lib.hid hfr; clear hfr; have Hte := Lib.hid hte; clear hte; have Hdu := Lib.hid hdu; clear hdu; have HX1 := Lib.hid hX1; clear hX1; have HX2 := Lib.hid hX2; clear hX2; have HX3 := Lib.hid hX3; clear hX3; have HX4 := Lib.hid hX4; clear hX4
  go_enter Tryd.func10, Tryd.ntmps10
  go_wp2_with fail
  refine Hright.out.mono ?_
  rintro e w1 ⟨rfl, hk1⟩
  have hk01 := (Keeps.alloc w _).nt hk1
  have hp := PTx.start (s := ⟨cy, fr, te, du, tot, cr, mi, gr, L⟩) (v := .slice ad n cap) ht (box_old Hb0.out hk1 (by simp)) hk01
  have Hk1 := Lib.hid hk1; clear hk1; have Hk01 := Lib.hid hk01; clear hk01; have Hp := Lib.hid hp; clear hp
  go_upto_region 4 with fail
  obtain ⟨B, hB⟩ : ∃ B, B = w1.heap.size := ⟨_, rfl⟩
  obtain ⟨w2, hw2⟩ : ∃ x, x = w1.alloc (.cells #[.pointer none, .slice none 0 0] 54) := ⟨_, rfl⟩
  rw [← hw2, ← hB] at Hp
  rw [← hw2, ← hB]
  have hdu0 : -135140 ≤ du ∧ du ≤ 2932896 := HR.out.due
  have hmi0 : 0 ≤ mi ∧ mi ≤ 1000000000000000 := HR.out.min
  have hd1 : (dateT du).length ≤ 30 := dateT_le (date_bd hdu0.1 hdu0.2).1
  have hmi : 0 ≤ mi ∧ mi ≤ 2000000000000000 := by omega
  obtain ⟨s, hs⟩ : ∃ s : Stm, s = ⟨cy, fr, te, du, tot, cr, mi, gr, L⟩ := ⟨_, rfl⟩
  rw [← hs] at Hp HR Hw
  have hS1 : (⟨#[99, 121, 99, 108, 101, 32]⟩ : ByteArray) ++ X1 ++ ⟨#[32]⟩ ++ X2 ++ ⟨#[46, 46]⟩ ++ X3 ++ ⟨#[10]⟩ = tx (headT s) := by
    rw [← HX1.out, ← HX2.out, ← HX3.out, show (⟨#[99, 121, 99, 108, 101, 32]⟩ : ByteArray) = tx wCycle from rfl, show (⟨#[32]⟩ : ByteArray) = tx [32] from rfl, show (⟨#[46, 46]⟩ : ByteArray) = tx [46, 46] from rfl, show (⟨#[10]⟩ : ByteArray) = tx [10] from rfl]
    simp only [tx_app]
    unfold headT
    rw [hs]
    simp
  have hS2 : (⟨#[100, 117, 101, 32]⟩ : ByteArray) ++ X4 = tx (wDue ++ dateT du) := by
    rw [← HX4.out, ← tx_app]; rfl
  have hl1 := headT_bd HR.out
  have hl2 := dueT_bd HR.out
  have hl3 := totT_bd HR.out
  have hl4 := rowsT_bd HR.out.len.2 (fun x hx => (Ln.ok_iff x).2 (HR.out.lines x hx))
  have hli := fun W ad cap (h1 : Reads W 1 (.slice ad 1 cap) 1 [.int .i64 mi]) (h2 : Tab W) => pageLine_any (wDue ++ dateT du) [mi] ad cap W h1 (by simp) (by simpa using hmi) (by rw [List.length_append]; unfold wDue; simp; omega) h2
  rw [← hS2] at hli
  obtain ⟨X5, hX5⟩ : ∃ X, tx (lineT (wDue ++ dateT du) [mi]) = X := ⟨_, rfl⟩
  rw [hX5] at hli
  simp only [List.length_cons, List.length_nil, Nat.zero_add] at hli
  have Hw2 := Lib.hid hw2; clear hw2; have HB := Lib.hid hB; clear hB; have HS1 := Lib.hid hS1; clear hS1; have HS2 := Lib.hid hS2; clear hS2; have Hl1 := Lib.hid hl1; clear hl1; have Hl2 := Lib.hid hl2; clear hl2; have Hl3 := Lib.hid hl3; clear hl3; have Hl4 := Lib.hid hl4; clear hl4; have Hd1 := Lib.hid hd1; clear hd1; have Hmi := Lib.hid hmi; clear hmi; have Hdu0 := Lib.hid hdu0; clear hdu0; have Hmi0 := Lib.hid hmi0; clear hmi0; have Hli := Lib.hid hli; clear hli; have HX5 := Lib.hid hX5; clear hX5
  go_cut [] (fun wz => PTx s (.slice ad n cap) w B (headT s) wz)
  case first =>
    have hS0 : p4S w.heap.size cy fr te w2 := by
      have hb := Hp.out.box
      rw [hs] at hb
      exact ⟨cell_of_cells hb 0, cell_of_cells hb 1, cell_of_cells hb 2⟩
    have Hs := Lib.hid hs
    clear hs
    refine wp_region_mixw (p4S w.heap.size cy fr te) (.take 0 (.take 1 (.take 5 (.take 6 (.take 7 (.take 11 (.take 12 (.take 13 (.move 2 (.take 3 (.take 4 (.move 8 (.take 9 (.take 10 (.move 14 (.take 15 (.take 16 (.move 17 .done)))))))))))))))))) (by kernel_rfl) (by kernel_rfl) ?_ ?_
    · exact hS0.keep (Keeps.drew _)
    intro w3 hs3 hk3
    have hp3 := Hp.out.keep hk3
    have HS0 := Lib.hid hS0; clear hS0; have Hk3 := Lib.hid hk3; clear hk3; have Hp3 := Lib.hid hp3; clear hp3
    repeat (first
      | (refine mix_skip rfl (by rfl) ?_; try simp only [Act.put, List.setIfInBounds_toArray, List.set_cons_zero, List.set_cons_succ])
      | (refine mix_skipm rfl (by rfl) ?_; try simp only [Act.put, List.setIfInBounds_toArray, List.set_cons_zero, List.set_cons_succ])
      | (refine mix_take (v := ?_) rfl (by rfl) ?_ ?_; rotate_left; (· intro w' hSw; unfold p4S at hSw; go_simp; (try rw [if_neg (by omega)]); (try with_reducible rfl)); rotate_right; try simp only [Act.put, List.setIfInBounds_toArray, List.set_cons_zero, List.set_cons_succ]))
    refine mix_move rfl (fun K hK => ?_)
    go_simp
    go_at_call 26
    ((with_reducible refine (Hcyc.out _ Hp3.out.tabW).mono ?_); rintro e w4 ⟨rfl, hk4⟩; dsimp only)
    refine hK.out _ _ (by exact hs3.keep hk4) ?_
    clear hK K
    try simp only [Act.put, List.setIfInBounds_toArray, List.set_cons_zero, List.set_cons_succ]
    have hs4 := hs3.keep hk4
    have hp4 := Hp3.out.keep hk4
    have Hk4 := Lib.hid hk4; clear hk4; have Hs3 := Lib.hid hs3; clear hs3; have Hs4 := Lib.hid hs4; clear hs4; have Hp4 := Lib.hid hp4; clear hp4
    repeat (first
      | (refine mix_skip rfl (by rfl) ?_; try simp only [Act.put, List.setIfInBounds_toArray, List.set_cons_zero, List.set_cons_succ])
      | (refine mix_skipm rfl (by rfl) ?_; try simp only [Act.put, List.setIfInBounds_toArray, List.set_cons_zero, List.set_cons_succ])
      | (refine mix_take (v := ?_) rfl (by rfl) ?_ ?_; rotate_left; (· intro w' hSw; unfold p4S at hSw; go_simp; (try rw [if_neg (by omega)]); (try with_reducible rfl)); rotate_right; try simp only [Act.put, List.setIfInBounds_toArray, List.set_cons_zero, List.set_cons_succ]))
    refine mix_move rfl (fun K hK => ?_)
    go_simp
    go_at_call 27
    ((with_reducible refine (Hfr.out _ Hp4.out.tabW).mono ?_); rintro e w5 ⟨rfl, hk5⟩; dsimp only)
    refine hK.out _ _ (by exact Hs4.out.keep hk5) ?_
    clear hK K
    try simp only [Act.put, List.setIfInBounds_toArray, List.set_cons_zero, List.set_cons_succ]
    have hs5 := Hs4.out.keep hk5
    have hp5 := Hp4.out.keep hk5
    have Hk5 := Lib.hid hk5; clear hk5; have Hs5 := Lib.hid hs5; clear hs5; have Hp5 := Lib.hid hp5; clear hp5
    repeat (first
      | (refine mix_skip rfl (by rfl) ?_; try simp only [Act.put, List.setIfInBounds_toArray, List.set_cons_zero, List.set_cons_succ])
      | (refine mix_skipm rfl (by rfl) ?_; try simp only [Act.put, List.setIfInBounds_toArray, List.set_cons_zero, List.set_cons_succ])
      | (refine mix_take (v := ?_) rfl (by rfl) ?_ ?_; rotate_left; (· intro w' hSw; unfold p4S at hSw; go_simp; (try rw [if_neg (by omega)]); (try with_reducible rfl)); rotate_right; try simp only [Act.put, List.setIfInBounds_toArray, List.set_cons_zero, List.set_cons_succ]))
    refine mix_move rfl (fun K hK => ?_)
    go_simp
    go_at_call 27
    ((with_reducible refine (Hte.out _ Hp5.out.tabW).mono ?_); rintro e w6 ⟨rfl, hk6⟩; dsimp only)
    refine hK.out _ _ (by exact Hs5.out.keep hk6) ?_
    clear hK K
    try simp only [Act.put, List.setIfInBounds_toArray, List.set_cons_zero, List.set_cons_succ]
    have hs6 := Hs5.out.keep hk6
    have hp6 := Hp5.out.keep hk6
    have Hk6 := Lib.hid hk6; clear hk6; have Hs6 := Lib.hid hs6; clear hs6; have Hp6 := Lib.hid hp6; clear hp6
    repeat (first
      | (refine mix_skip rfl (by rfl) ?_; try simp only [Act.put, List.setIfInBounds_toArray, List.set_cons_zero, List.set_cons_succ])
      | (refine mix_skipm rfl (by rfl) ?_; try simp only [Act.put, List.setIfInBounds_toArray, List.set_cons_zero, List.set_cons_succ])
      | (refine mix_take (v := ?_) rfl (by rfl) ?_ ?_; rotate_left; (· intro w' hSw; unfold p4S at hSw; go_simp; (try rw [if_neg (by omega)]); (try with_reducible rfl)); rotate_right; try simp only [Act.put, List.setIfInBounds_toArray, List.set_cons_zero, List.set_cons_succ]))
    refine mix_move rfl (fun K hK => ?_)
    go_simp
    go_at_call 25
    ((with_reducible refine (Hp6.out.write HS1.out (by have := Hl1.out; simp; omega)).mono ?_); rintro e w7 ⟨rfl, hp7⟩; dsimp only)
    refine hK.out _ _ (by (have hb := hp7.box; rw [Hs.out] at hb; exact ⟨cell_of_cells hb 0, cell_of_cells hb 1, cell_of_cells hb 2⟩)) ?_
    clear hK K
    try simp only [Act.put, List.setIfInBounds_toArray, List.set_cons_zero, List.set_cons_succ]
    have Hp7 := Lib.hid hp7; clear hp7
    refine mix_done ?_
    go_wp2_with fail
    go_meet
    exact Hp7.out
  obtain ⟨w8, hw8⟩ : ∃ x, x = wc := ⟨_, rfl⟩
  subst hw8
  have hp8 := hcut
  have Hp8 := Lib.hid hp8; clear hp8
  clear hcut
  go_upto_region 5 with fail
  go_cut [] (fun wz => PTx s (.slice ad n cap) w B (headT s ++ lineT (wDue ++ dateT du) [mi]) wz)
  case first =>
    have hS0 : p5S w.heap.size du mi w8 := by
      have hb := Hp8.out.box
      rw [hs] at hb
      exact ⟨cell_of_cells hb 3, cell_of_cells hb 7⟩
    have Hs := Lib.hid hs
    clear hs
    refine wp_region_mixw (p5S w.heap.size du mi) (.take 0 (.take 1 (.take 4 (.take 5 (.fork 2 (.take 3 (.move 6 (.move 7 (.move 8 .done)))) 6 (.move 2 (.take 3 (.move 7 (.move 8 .done))))))))) (by kernel_rfl) (by kernel_rfl) ?_ ?_
    · exact hS0.keep (Keeps.drew _)
    intro w9 hs9 hk9
    have hp9 := Hp8.out.keep hk9
    have HS0 := Lib.hid hS0; clear hS0; have Hk9 := Lib.hid hk9; clear hk9; have Hp9 := Lib.hid hp9; clear hp9
    repeat (first
      | (refine mix_skip rfl (by rfl) ?_; try simp only [Act.put, List.setIfInBounds_toArray, List.set_cons_zero, List.set_cons_succ])
      | (refine mix_skipm rfl (by rfl) ?_; try simp only [Act.put, List.setIfInBounds_toArray, List.set_cons_zero, List.set_cons_succ])
      | (refine mix_take (v := ?_) rfl (by rfl) ?_ ?_; rotate_left; (· intro w' hSw; unfold p5S at hSw; go_simp; (try rw [if_neg (by omega)]); (try with_reducible rfl)); rotate_right; try simp only [Act.put, List.setIfInBounds_toArray, List.set_cons_zero, List.set_cons_succ]))
    refine mix_fork ?_ ?_ hs9
    · skip
      refine mix_move rfl (fun K hK => ?_)
      go_simp
      go_at_call 27
      ((with_reducible refine (Hdu.out _ Hp9.out.tabW).mono ?_); rintro e w10 ⟨rfl, hk10⟩; dsimp only)
      refine hK.out _ _ (by exact hs9.keep hk10) ?_
      clear hK K
      try simp only [Act.put, List.setIfInBounds_toArray, List.set_cons_zero, List.set_cons_succ]
      have hs10 := hs9.keep hk10
      have hp10 := Hp9.out.keep hk10
      have Hk10 := Lib.hid hk10; clear hk10; have Hs9 := Lib.hid hs9; clear hs9; have Hs10 := Lib.hid hs10; clear hs10; have Hp10 := Lib.hid hp10; clear hp10
      repeat (first
        | (refine mix_skip rfl (by rfl) ?_; try simp only [Act.put, List.setIfInBounds_toArray, List.set_cons_zero, List.set_cons_succ])
        | (refine mix_skipm rfl (by rfl) ?_; try simp only [Act.put, List.setIfInBounds_toArray, List.set_cons_zero, List.set_cons_succ])
        | (refine mix_take (v := ?_) rfl (by rfl) ?_ ?_; rotate_left; (· intro w' hSw; unfold p5S at hSw; go_simp; (try rw [if_neg (by omega)]); (try with_reducible rfl)); rotate_right; try simp only [Act.put, List.setIfInBounds_toArray, List.set_cons_zero, List.set_cons_succ]))
      refine mix_move rfl (fun K hK => ?_)
      go_simp
      refine hK.out _ _ (by exact Hs10.out.keep (Keeps.alloc _ _)) ?_
      clear hK K
      try simp only [Act.put, List.setIfInBounds_toArray, List.set_cons_zero, List.set_cons_succ]
      have hs11 := Hs10.out.keep (Keeps.alloc w10 (.cells #[.int .i64 mi] 2))
      have hp11 := Hp10.out.keep (Keeps.alloc w10 (.cells #[.int .i64 mi] 2))
      have hr11 : Reads (w10.alloc (.cells #[.int .i64 mi] 2)) 1 (.slice (some ⟨w10.heap.size, 0, none⟩) 1 1) 1 [.int .i64 mi] := Reads.lit w10 #[.int .i64 mi] 2 1 1 rfl
      have Hs11 := Lib.hid hs11; clear hs11; have Hp11 := Lib.hid hp11; clear hp11; have Hr11 := Lib.hid hr11; clear hr11
      repeat (first
        | (refine mix_skip rfl (by rfl) ?_; try simp only [Act.put, List.setIfInBounds_toArray, List.set_cons_zero, List.set_cons_succ])
        | (refine mix_skipm rfl (by rfl) ?_; try simp only [Act.put, List.setIfInBounds_toArray, List.set_cons_zero, List.set_cons_succ])
        | (refine mix_take (v := ?_) rfl (by rfl) ?_ ?_; rotate_left; (· intro w' hSw; unfold p5S at hSw; go_simp; (try rw [if_neg (by omega)]); (try with_reducible rfl)); rotate_right; try simp only [Act.put, List.setIfInBounds_toArray, List.set_cons_zero, List.set_cons_succ]))
      refine mix_move rfl (fun K hK => ?_)
      go_simp
      go_at_call 28
      ((with_reducible refine (Hli.out _ _ _ Hr11.out Hp11.out.tabW).mono ?_); rintro e w12 ⟨rfl, hk12⟩; dsimp only)
      refine hK.out _ _ (by exact Hs11.out.keep hk12) ?_
      clear hK K
      try simp only [Act.put, List.setIfInBounds_toArray, List.set_cons_zero, List.set_cons_succ]
      have hp12 := Hp11.out.keep hk12
      have Hk12 := Lib.hid hk12; clear hk12; have Hp12 := Lib.hid hp12; clear hp12
      repeat (first
        | (refine mix_skip rfl (by rfl) ?_; try simp only [Act.put, List.setIfInBounds_toArray, List.set_cons_zero, List.set_cons_succ])
        | (refine mix_skipm rfl (by rfl) ?_; try simp only [Act.put, List.setIfInBounds_toArray, List.set_cons_zero, List.set_cons_succ])
        | (refine mix_take (v := ?_) rfl (by rfl) ?_ ?_; rotate_left; (· intro w' hSw; unfold p5S at hSw; go_simp; (try rw [if_neg (by omega)]); (try with_reducible rfl)); rotate_right; try simp only [Act.put, List.setIfInBounds_toArray, List.set_cons_zero, List.set_cons_succ]))
      refine mix_move rfl (fun K hK => ?_)
      go_simp
      go_at_call 25
      ((with_reducible refine (Hp12.out.write HX5.out.symm (by have := Hl1.out; have := Hl2.out; rw [Hs.out] at *; simp only at *; omega)).mono ?_); rintro e w13 ⟨rfl, hp13⟩; dsimp only)
      refine hK.out _ _ (by (have hb := hp13.box; rw [Hs.out] at hb; exact ⟨cell_of_cells hb 3, cell_of_cells hb 7⟩)) ?_
      clear hK K
      try simp only [Act.put, List.setIfInBounds_toArray, List.set_cons_zero, List.set_cons_succ]
      have Hp13 := Lib.hid hp13; clear hp13
      refine mix_done ?_
      go_wp2_with fail
      go_meet
      exact Hp13.out
    · skip
      refine mix_move rfl (fun K hK => ?_)
      go_simp
      refine hK.out _ _ (by exact hs9.keep (Keeps.alloc _ _)) ?_
      clear hK K
      try simp only [Act.put, List.setIfInBounds_toArray, List.set_cons_zero, List.set_cons_succ]
      have hs10 := hs9.keep (Keeps.alloc w9 (.cells #[.int .i64 mi] 2))
      have hp10 := Hp9.out.keep (Keeps.alloc w9 (.cells #[.int .i64 mi] 2))
      have hr10 : Reads (w9.alloc (.cells #[.int .i64 mi] 2)) 1 (.slice (some ⟨w9.heap.size, 0, none⟩) 1 1) 1 [.int .i64 mi] := Reads.lit w9 #[.int .i64 mi] 2 1 1 rfl
      have Hs9 := Lib.hid hs9; clear hs9; have Hs10 := Lib.hid hs10; clear hs10; have Hp10 := Lib.hid hp10; clear hp10; have Hr10 := Lib.hid hr10; clear hr10
      repeat (first
        | (refine mix_skip rfl (by rfl) ?_; try simp only [Act.put, List.setIfInBounds_toArray, List.set_cons_zero, List.set_cons_succ])
        | (refine mix_skipm rfl (by rfl) ?_; try simp only [Act.put, List.setIfInBounds_toArray, List.set_cons_zero, List.set_cons_succ])
        | (refine mix_take (v := ?_) rfl (by rfl) ?_ ?_; rotate_left; (· intro w' hSw; unfold p5S at hSw; go_simp; (try rw [if_neg (by omega)]); (try with_reducible rfl)); rotate_right; try simp only [Act.put, List.setIfInBounds_toArray, List.set_cons_zero, List.set_cons_succ]))
      refine mix_move rfl (fun K hK => ?_)
      go_simp
      go_at_call 27
      ((with_reducible refine (Hdu.out _ Hp10.out.tabW).mono ?_); rintro e w11 ⟨rfl, hk11⟩; dsimp only)
      refine hK.out _ _ (by exact Hs10.out.keep hk11) ?_
      clear hK K
      try simp only [Act.put, List.setIfInBounds_toArray, List.set_cons_zero, List.set_cons_succ]
      have hs11 := Hs10.out.keep hk11
      have hp11 := Hp10.out.keep hk11
      have hr11 := Hr10.out.keeps hk11 (by simp)
      have Hk11 := Lib.hid hk11; clear hk11; have Hs11 := Lib.hid hs11; clear hs11; have Hp11 := Lib.hid hp11; clear hp11; have Hr11 := Lib.hid hr11; clear hr11
      repeat (first
        | (refine mix_skip rfl (by rfl) ?_; try simp only [Act.put, List.setIfInBounds_toArray, List.set_cons_zero, List.set_cons_succ])
        | (refine mix_skipm rfl (by rfl) ?_; try simp only [Act.put, List.setIfInBounds_toArray, List.set_cons_zero, List.set_cons_succ])
        | (refine mix_take (v := ?_) rfl (by rfl) ?_ ?_; rotate_left; (· intro w' hSw; unfold p5S at hSw; go_simp; (try rw [if_neg (by omega)]); (try with_reducible rfl)); rotate_right; try simp only [Act.put, List.setIfInBounds_toArray, List.set_cons_zero, List.set_cons_succ]))
      refine mix_move rfl (fun K hK => ?_)
      go_simp
      go_at_call 28
      ((with_reducible refine (Hli.out _ _ _ Hr11.out Hp11.out.tabW).mono ?_); rintro e w12 ⟨rfl, hk12⟩; dsimp only)
      refine hK.out _ _ (by exact Hs11.out.keep hk12) ?_
      clear hK K
      try simp only [Act.put, List.setIfInBounds_toArray, List.set_cons_zero, List.set_cons_succ]
      have hp12 := Hp11.out.keep hk12
      have Hk12 := Lib.hid hk12; clear hk12; have Hp12 := Lib.hid hp12; clear hp12
      repeat (first
        | (refine mix_skip rfl (by rfl) ?_; try simp only [Act.put, List.setIfInBounds_toArray, List.set_cons_zero, List.set_cons_succ])
        | (refine mix_skipm rfl (by rfl) ?_; try simp only [Act.put, List.setIfInBounds_toArray, List.set_cons_zero, List.set_cons_succ])
        | (refine mix_take (v := ?_) rfl (by rfl) ?_ ?_; rotate_left; (· intro w' hSw; unfold p5S at hSw; go_simp; (try rw [if_neg (by omega)]); (try with_reducible rfl)); rotate_right; try simp only [Act.put, List.setIfInBounds_toArray, List.set_cons_zero, List.set_cons_succ]))
      refine mix_move rfl (fun K hK => ?_)
      go_simp
      go_at_call 25
      ((with_reducible refine (Hp12.out.write HX5.out.symm (by have := Hl1.out; have := Hl2.out; rw [Hs.out] at *; simp only at *; omega)).mono ?_); rintro e w13 ⟨rfl, hp13⟩; dsimp only)
      refine hK.out _ _ (by (have hb := hp13.box; rw [Hs.out] at hb; exact ⟨cell_of_cells hb 3, cell_of_cells hb 7⟩)) ?_
      clear hK K
      try simp only [Act.put, List.setIfInBounds_toArray, List.set_cons_zero, List.set_cons_succ]
      have Hp13 := Lib.hid hp13; clear hp13
      refine mix_done ?_
      go_wp2_with fail
      go_meet
      exact Hp13.out
  obtain ⟨w14, hw14⟩ : ∃ x, x = wc := ⟨_, rfl⟩
  subst hw14
  have hp14 := hcut
  have hL : s.lines = L := by rw [hs]
  have hb := hp14.box
  rw [hs] at hb
  have b4 : w14.cell? ⟨w.heap.size, 4, none⟩ = some (.slice ad n cap) := cell_of_cells hb 4
  have bl := lt_of_block hb
  obtain ⟨H0, hH0⟩ : ∃ l, headT s ++ lineT (wDue ++ dateT du) [mi] = l := ⟨_, rfl⟩
  rw [hH0] at hp14
  have hH1 : H0.length ≤ 160 := by
    rw [← hH0, List.length_append]
    have h1 := Hl1.out
    have h2 := Hl2.out
    rw [hs] at h1 h2
    rw [hs]
    simp only at h1 h2
    omega
  have hn8 : n ≤ 8 := by have := HR.out.len.2; rw [hL, Hn.out] at this; exact this
  have Hp14 := Lib.hid hp14; clear hp14; have HL := Lib.hid hL; clear hL; have HH0 := Lib.hid hH0; clear hH0; have Hb := Lib.hid hb; clear hb
  clear hcut
  go_upto_region 7 with fail
  have Hs := Lib.hid hs
  clear hs
  go_loopw [39] (fun x39 wr => ∃ j : Nat, x39 = .int .i64 (j : Nat) ∧ j ≤ n ∧ Hid (PTx s (.slice ad n cap) w B (H0 ++ rowsT L j) wr)) (fun x39 _ => n - (intOf x39).toNat)
  case atStart => exact ⟨0, rfl, Nat.zero_le _, Lib.hid (by rw [show rowsT L 0 = [] from rfl, List.append_nil]; exact Hp14.out)⟩
  case round =>
    obtain ⟨j, rfl, hj, HP⟩ := hrel
    obtain ⟨w15, hw15⟩ : ∃ x, x = wr := ⟨_, rfl⟩
    subst hw15
    clear b4 bl
    have hb5 := HP.out.box
    rw [Hs.out] at hb5
    by_cases hjn : j < n
    · have hjI : (j : Int) < (n : Int) := by omega
      obtain ⟨x, hx⟩ := get_some (L := L) (k := j) (by rw [Hn.out]; exact hjn)
      obtain ⟨g, o, cc, he, hc⟩ := (Hr.out.keeps HP.out.kp (by simp)).elem Ln.cells_length hx (by decide)
      simp only [Value.slice.injEq, true_and] at he
      obtain ⟨rfl, rfl⟩ := he
      have x0 : w15.cell? ⟨g, o + j * 3, none⟩ = some (.int .i64 x.balance) := hc 0 (by decide)
      have x1 : w15.cell? ⟨g, o + j * 3 + 1, none⟩ = some (.int .i64 x.interest) := hc 1 (by decide)
      have x2 : w15.cell? ⟨g, o + j * 3 + 2, none⟩ = some (.int .i64 x.rate) := hc 2 (by decide)
      have xl := cell_lt x0
      have hok := HR.out.lines x (by rw [HL.out]; exact List.mem_of_getElem? hx)
      have hli2 := fun W ad cap (h1 : Reads W 1 (.slice ad 4 cap) 4 [.int .i64 ((j : Int) + 1), .int .i64 x.balance, .int .i64 x.interest, .int .i64 x.rate]) (h2 : Tab W) => pageLine_any wTranche [(j : Int) + 1, x.balance, x.interest, x.rate] ad cap W h1 (by simp) (by simp; omega) (by decide) h2
      have hrb := rowT_bd (n := j) (x := x) (by omega) ((Ln.ok_iff x).2 hok)
      have hrs := (Hl4.out j (by rw [HL.out, Hn.out]; omega)).2
      rw [HL.out] at hrs
      obtain ⟨XR, hXR⟩ : ∃ X, tx (lineT wTranche [(j : Int) + 1, x.balance, x.interest, x.rate]) = X := ⟨_, rfl⟩
      rw [hXR, show tx wTranche = (⟨#[116, 114, 97, 110, 99, 104, 101]⟩ : ByteArray) from rfl] at hli2
      simp only [List.length_cons, List.length_nil, Nat.zero_add, Nat.reduceAdd] at hli2
      have Hb5 := Lib.hid hb5; clear hb5; have Hx := Lib.hid hx; clear hx; have Hok := Lib.hid hok; clear hok; have Hli2 := Lib.hid hli2; clear hli2; have Hrb := Lib.hid hrb; clear hrb; have Hrs := Lib.hid hrs; clear hrs; have HXR := Lib.hid hXR; clear hXR
      clear hc
      go_wp2_with fail
      have hp16 := HP.out.keep ((Keeps.alloc w15 (.cells #[.int .i64 x.balance, .int .i64 x.interest, .int .i64 x.rate] 30)).nt (Keeps.alloc _ (.cells #[.int .i64 ((j : Int) + 1), .int .i64 x.balance, .int .i64 x.interest, .int .i64 x.rate] 2)))
      have hr16 := Reads.litAt (w15.alloc (.cells #[.int .i64 x.balance, .int .i64 x.interest, .int .i64 x.rate] 30)) #[.int .i64 ((j : Int) + 1), .int .i64 x.balance, .int .i64 x.interest, .int .i64 x.rate] 2 1 4 (w15.heap.size + 1) (by simp) rfl
      refine (Hli2.out _ _ _ hr16 hp16.tabW).mono ?_
      rintro e w17 ⟨rfl, hk17⟩
      have hp17 := hp16.keep hk17
      have hw17 := hp17.write HXR.out.symm (by have := Hrb.out; have := Hrs.out; rw [List.length_append]; unfold rowT at *; omega)
      clear hr16
      have Hp16 := Lib.hid hp16; clear hp16; have Hk17 := Lib.hid hk17; clear hk17; have Hp17 := Lib.hid hp17; clear hp17; have Hw17 := Lib.hid hw17; clear hw17
      go_wp2_with fail
      refine Hw17.out.mono ?_
      rintro e w18 ⟨rfl, hp18⟩
      rw [List.append_assoc, show rowsT L j ++ lineT wTranche [(j : Int) + 1, x.balance, x.interest, x.rate] = rowsT L (j + 1) from (rowsT_succ Hx.out).symm] at hp18
      have Hp18 := Lib.hid hp18; clear hp18
      go_wp2_with fail
      go_roundw
      case rel => exact ⟨j + 1, by go_num, by omega, Hp18⟩
      case measure => simp [intOf]; omega
    · obtain rfl : j = n := by omega
      have b5 : w15.cell? ⟨w.heap.size, 5, none⟩ = some (.int .i64 tot) := cell_of_cells hb5 5
      have b6 : w15.cell? ⟨w.heap.size, 6, none⟩ = some (.int .i64 cr) := cell_of_cells hb5 6
      have bl := lt_of_block hb5
      have htot : 0 ≤ tot ∧ tot ≤ 1000000000000000 := by have := HR.out.total; rw [Hs.out] at this; exact this
      have hcr : 0 ≤ cr ∧ cr ≤ 1000000000000000 := by have := HR.out.credit; rw [Hs.out] at this; exact this
      have hli3 := fun W ad cap (h1 : Reads W 1 (.slice ad 2 cap) 2 [.int .i64 tot, .int .i64 cr]) (h2 : Tab W) => pageLine_any wTotal [tot, cr] ad cap W h1 (by simp) (by simp; omega) (by decide) h2
      have hrs := (Hl4.out j (by rw [HL.out, Hn.out]; omega)).2
      rw [HL.out] at hrs
      have hl5 := Hl3.out
      rw [Hs.out] at hl5
      simp only at hl5
      obtain ⟨XR, hXR⟩ : ∃ X, tx (lineT wTotal [tot, cr]) = X := ⟨_, rfl⟩
      rw [hXR, show tx wTotal = (⟨#[116, 111, 116, 97, 108]⟩ : ByteArray) from rfl] at hli3
      simp only [List.length_cons, List.length_nil, Nat.zero_add, Nat.reduceAdd] at hli3
      have hp16 := HP.out.keep (Keeps.alloc w15 (.cells #[.int .i64 tot, .int .i64 cr] 2))
      have hr16 := Reads.lit w15 #[.int .i64 tot, .int .i64 cr] 2 1 2 rfl
      have Hb5 := Lib.hid hb5; clear hb5; have Htot := Lib.hid htot; clear htot; have Hcr := Lib.hid hcr; clear hcr; have Hli3 := Lib.hid hli3; clear hli3; have Hrs := Lib.hid hrs; clear hrs; have Hl5 := Lib.hid hl5; clear hl5; have HXR := Lib.hid hXR; clear hXR; have Hp16 := Lib.hid hp16; clear hp16; have Hr16 := Lib.hid hr16; clear hr16
      go_wp2_with fail
      refine (Hli3.out _ _ _ Hr16.out Hp16.out.tabW).mono ?_
      rintro e w17 ⟨rfl, hk17⟩
      have hp17 := Hp16.out.keep hk17
      have hw17 := hp17.write HXR.out.symm (by have := Hl5.out; have := Hrs.out; rw [List.length_append]; omega)
      have Hk17 := Lib.hid hk17; clear hk17; have Hp17 := Lib.hid hp17; clear hp17; have Hw17 := Lib.hid hw17; clear hw17
      go_wp2_with fail
      refine Hw17.out.mono ?_
      rintro e w18 ⟨rfl, hp18⟩
      clear b5 b6 bl
      have hb8 := hp18.box
      rw [Hs.out] at hb8
      have b8 : w18.cell? ⟨w.heap.size, 8, none⟩ = some (.bool gr) := cell_of_cells hb8 8
      have bl := lt_of_block hb8
      have hfin : stmT s = headT s ++ lineT (wDue ++ dateT du) [mi] ++ rowsT L j ++ lineT wTotal [tot, cr] ++ (if gr = true then wGrace else []) := by
        unfold stmT
        rw [if_pos Hw.out, HL.out, Hn.out, Hs.out]
      rw [HH0.out] at hfin
      have Hp18 := Lib.hid hp18; clear hp18; have Hb8 := Lib.hid hb8; clear hb8; have Hfin := Lib.hid hfin; clear hfin
      rcases gr with _ | _
      · have hst := Tryd.Builder_String_any B B _ w18 Hp18.out.bld (by have := Hp18.out.sz; omega)
        have Hst := Lib.hid hst; clear hst
        go_wp2_with fail
        refine Hst.out.mono ?_
        rintro e w19 ⟨rfl, hk19⟩
        have Hk19 := Lib.hid hk19; clear hk19
        go_wp2_with fail
        go_ret
        refine ⟨by rw [← Hs.out, Hfin.out]; simp [tx], Hp18.out.kp.trans ((Keeps.of_below Hk19.out).mono fun k _ hk => .inr (by have := Hp18.out.lt; omega))⟩
      · have hw19 := Hp18.out.write (m := wGrace) (S := ⟨#[103, 114, 97, 99, 101, 10]⟩) rfl (by have := Hl5.out; have := Hrs.out; simp only [List.length_append]; unfold wGrace; simp; omega)
        have Hw19 := Lib.hid hw19; clear hw19
        go_wp2_with fail
        refine Hw19.out.mono ?_
        rintro e w19 ⟨rfl, hp19⟩
        have hst := Tryd.Builder_String_any B B _ w19 hp19.bld (by have := hp19.sz; omega)
        have Hp19 := Lib.hid hp19; clear hp19; have Hst := Lib.hid hst; clear hst
        go_wp2_with fail
        refine Hst.out.mono ?_
        rintro e w20 ⟨rfl, hk20⟩
        have Hk20 := Lib.hid hk20; clear hk20
        go_wp2_with fail
        go_ret
        refine ⟨by rw [← Hs.out, Hfin.out]; simp [tx], Hp19.out.kp.trans ((Keeps.of_below Hk20.out).mono fun k _ hk => .inr (by have := Hp19.out.lt; omega))⟩
end Go.Proofs.YthokcmbgamanbaaDoor
