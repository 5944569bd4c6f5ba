/- The walks of the page layer: the document's Take. -/
import Derived.Test.YthokcmbgamanbaaDoorPage11
import Derived.Test.YthokcmbgamanbaaDoorPage7
namespace Go.Proofs.YthokcmbgamanbaaDoor
open Go.RowKit
theorem helpTake_is {w : World} {ad : Option Addr} {cap p : Nat} {B : List Int} {x z : Int} (hr : Reads w 1 (.slice ad B.length cap) B.length (B.flatMap u8c)) (hB : ∀ z ∈ B, 0 ≤ z ∧ z ≤ 255) (hl : B.length ≤ 1000000) (hx : x = 8 * (p : Int)) (hp : 8 * p + 8 ≤ B.length) (hz : numAt B p = z) :
    Calls Tryd.prog 36 #[.slice ad B.length cap, .int .i64 x] w fun e w' => e = .returned (.int .i64 z) ∧ w = w' := by
  have := helpTake_at (a := 8 * p) (p := p) hr hB hl rfl hp hz
  rw [hx]; exact this
def numsTo (B : List Int) (n : Nat) : List Int := (List.range n).map (numAt B)
theorem numsTo_length (B : List Int) (n : Nat) : (numsTo B n).length = n := by simp [numsTo]
theorem numsTo_succ (B : List Int) (n : Nat) : numsTo B (n + 1) = numsTo B n ++ [numAt B n] := by simp [numsTo, List.range_succ]
theorem numsTo_get (B : List Int) {n i : Nat} (h : i < n) : (numsTo B n)[i]? = some (numAt B i) := by simp [numsTo, h]
def Z9 : Array Value := #[.int .i64 0, .int .i64 0, .int .i64 0, .int .i64 0, .slice none 0 0, .int .i64 0, .int .i64 0, .int .i64 0, .bool false]
/-- .. and the statement's block, with its row of lines. -/
structure RT (w W : World) (lv : Value) (N : List Int) (T : Nat) (C : Array Value) (v : Value) (L : List Ln) : Prop where
  rl : RL Z9 w W lv N
  blk : W.heap[T]? = some (.cells C 26 (0, 0))
  tn : w.heap.size < T
  row : W.ownsRow 0 30 3 v L.length (L.flatMap Ln.cells)
  nw : ∀ g, v.ownBlock = some g → w.heap.size < g
section
variable {w W W' w4 : World} {lv v v4 : Value} {N : List Int} {T n : Nat} {C : Array Value} {L : List Ln} {xs : List Value}
theorem RT.new (h : RL Z9 w W lv N) (C : Array Value) : RT w (W.alloc (.cells C 26)) lv N W.heap.size C (.slice none 0 0) [] :=
  ⟨h.keep (Keeps.alloc _ _), heap_alloc_new _ _, lt_of_block h.bx.blk, World.ownsRow_nil _ _ _ _, by simp [Value.ownBlock]⟩
theorem RT.keep (h : RT w W lv N T C v L) (hk : Keeps (fun _ => False) W W') : RT w W' lv N T C v L := ⟨h.rl.keep hk, box_old h.blk hk (by simp), h.tn, hk.row h.row (by simp), h.nw⟩
theorem RT.set (h : RT w W lv N T C v L) (i : Nat) (x : Value) : RT w (W.setCell ⟨T, i, none⟩ x) lv N T (C.setIfInBounds i x) v L :=
  have hk : Keeps (fun j => j = T) W (W.setCell ⟨T, i, none⟩ x) := Keeps.setCell _ _ _ rfl
  ⟨⟨⟨h.rl.bx.kp.trans (hk.mono fun j _ e => by right; have := h.tn; omega), box_old h.rl.bx.blk hk (by have := h.tn; omega)⟩, ownsRow_setCell_other h.rl.row (ownsRow_ne h.rl.row h.blk (by decide)) _, h.rl.nw⟩, heap_setCell_same _ _ i _ _ _ h.blk, h.tn, ownsRow_setCell_other h.row (ownsRow_ne h.row h.blk (by decide)) _, h.nw⟩
theorem RT.app (h : RT w W lv N T C v L) (x : Ln) (hn : n = L.length + 1) (hx : xs = L.flatMap Ln.cells ++ x.cells) (ho : w4.ownsRow 0 30 3 v4 n xs) (hk : Keeps (fun k => v.ownBlock = some k) W w4)
    (hf : v4.ownBlock = v.ownBlock ∨ ∃ g, v4.ownBlock = some g ∧ W.heap.size ≤ g) : RT w w4 lv N T C v4 (L ++ [x]) := by
  subst hn hx
  have hs := lt_of_block h.rl.bx.blk
  refine ⟨⟨⟨h.rl.bx.kp.trans (hk.mono fun k _ e => .inr (Nat.le_of_lt (h.nw k e))), box_old h.rl.bx.blk hk (ownsRow_ne h.row h.rl.bx.blk (by decide))⟩, hk.row h.rl.row (fun g hg e => rows_apart' h.rl.row h.row (by decide) hg e), h.rl.nw⟩, box_old h.blk hk (ownsRow_ne h.row h.blk (by decide)), h.tn, by simpa [List.flatMap_append] using ho, fun g hg => ?_⟩
  rcases hf with e | ⟨g', h1, h2⟩
  · exact h.nw g (by rw [← e]; exact hg)
  · rw [h1] at hg; simp only [Option.some.injEq] at hg; omega
end
set_option maxRecDepth 100000 in
set_option maxHeartbeats 6400000 in
theorem rpageTake_any (ad : Option Addr) (cap : Nat) (B : List Int) (w : World) (hr : Reads w 1 (.slice ad B.length cap) B.length (B.flatMap u8c)) (hB : ∀ z ∈ B, 0 ≤ z ∧ z ≤ 255) (hBl : B.length ≤ 1000000) :
    Calls Tryd.prog 15 #[.slice ad B.length cap] w (TakePost B w) := by
  obtain ⟨i0, hi, hi0, hi1, hi2⟩ := info_parts info_tInt64
  obtain ⟨j0, bj, bj0, bj1, bj2⟩ := info_parts info_tLine
  obtain ⟨z7, hz7⟩ : ∃ z, numAt B 7 = z := ⟨_, rfl⟩
  obtain ⟨z8, hz8⟩ : ∃ z, numAt B 8 = z := ⟨_, rfl⟩
  have hst : RL Z9 w (w.alloc (.cells Z9 26)) (.slice none 0 0) (numsTo B 0) := ⟨⟨Keeps.alloc _ _, heap_alloc_new _ _⟩, World.ownsRow_nil _ _ _ _, by simp [Value.ownBlock]⟩
  have Hr := Lib.hid hr; clear hr; have HB := Lib.hid hB; clear hB; have Hz7 := Lib.hid hz7; clear hz7; have Hz8 := Lib.hid hz8; clear hz8; have Hst := Lib.hid hst; clear hst
  go_enter Tryd.func15, Tryd.ntmps15
  go_wp2
  go_loopw [4, 5, 6] (fun a b c wr => ∃ (i : Nat) (va : Value) (wv : Int), c = .int .i64 (i : Nat) ∧ b = .int .i64 wv ∧ a = va ∧ RL Z9 w wr va (numsTo B i) ∧ 8 * i ≤ B.length ∧ (7 < i → 0 ≤ z7 ∧ z7 ≤ 1) ∧ ((i ≤ 8 ∧ wv = 9) ∨ (9 ≤ i ∧ wv = 9 + 3 * z8 ∧ (i : Int) ≤ wv ∧ 1 ≤ z8 ∧ z8 ≤ 8))) (fun _ b c _ => (33 - intOf c).toNat)
  case atStart => exact ⟨0, _, _, rfl, rfl, rfl, Hst.out, by omega, by omega, .inl ⟨by omega, rfl⟩⟩
  case round =>
    obtain ⟨i, va, wv, rfl, rfl, rfl, hrl, hi8, h7, hwv⟩ := hrel
    have hsh := ownsRow_shape hrl.row
    rw [numsTo_length] at hsh
    obtain ⟨adv, capv, rfl, _, _⟩ := hsh
    by_cases hiw : (i : Int) < wv
    · by_cases hsho : B.length < 8 * i + 8
      · have he : takeErr B = 3 := by
          unfold takeErr
          rw [Hz7.out, Hz8.out]
          by_cases a1 : B.length < 64
          · rw [if_pos a1]
          · have := h7 (by omega)
            rw [if_neg a1, if_neg (by omega)]
            by_cases a2 : B.length < 72
            · rw [if_pos a2]
            · rw [if_neg a2, if_neg (by omega), if_pos (by omega)]
        have hsi : (B.length : Int) < 8 * (i : Int) + 8 := by omega
        have hib : (i : Int) ≤ 1000000 := by omega
        have r0 : World.cell? _ (⟨w.heap.size, 0, none⟩ : Addr) = some (.int .i64 0) := cell_of_cells hrl.bx.blk 0
        have r1 : World.cell? _ (⟨w.heap.size, 1, none⟩ : Addr) = some (.int .i64 0) := cell_of_cells hrl.bx.blk 1
        have r2 : World.cell? _ (⟨w.heap.size, 2, none⟩ : Addr) = some (.int .i64 0) := cell_of_cells hrl.bx.blk 2
        have r3 : World.cell? _ (⟨w.heap.size, 3, none⟩ : Addr) = some (.int .i64 0) := cell_of_cells hrl.bx.blk 3
        have r4 : World.cell? _ (⟨w.heap.size, 4, none⟩ : Addr) = some (.slice none 0 0) := cell_of_cells hrl.bx.blk 4
        have r5 : World.cell? _ (⟨w.heap.size, 5, none⟩ : Addr) = some (.int .i64 0) := cell_of_cells hrl.bx.blk 5
        have r6 : World.cell? _ (⟨w.heap.size, 6, none⟩ : Addr) = some (.int .i64 0) := cell_of_cells hrl.bx.blk 6
        have r7 : World.cell? _ (⟨w.heap.size, 7, none⟩ : Addr) = some (.int .i64 0) := cell_of_cells hrl.bx.blk 7
        have r8 : World.cell? _ (⟨w.heap.size, 8, none⟩ : Addr) = some (.bool false) := cell_of_cells hrl.bx.blk 8
        have f0 := free_of_cells hrl.bx.blk 0
        have f1 := free_of_cells hrl.bx.blk 1
        have f2 := free_of_cells hrl.bx.blk 2
        have f3 := free_of_cells hrl.bx.blk 3
        have f4 := free_of_cells hrl.bx.blk 4
        have f5 := free_of_cells hrl.bx.blk 5
        have f6 := free_of_cells hrl.bx.blk 6
        have f7 := free_of_cells hrl.bx.blk 7
        have f8 := free_of_cells hrl.bx.blk 8
        have rl := lt_of_block hrl.bx.blk
        clear hwv h7 hi8 hsho
        have He := Lib.hid he; clear he; have Hrl := Lib.hid hrl; clear hrl
        go_wp2
        exact bodyPost_ret (v := .tuple #[.agg #[.int .i64 0, .int .i64 0, .int .i64 0, .int .i64 0, .slice none 0 0, .int .i64 0, .int .i64 0, .int .i64 0, .bool false], .int .i64 3]) (by simp [results, Tryd.results15, go_sem, r0, r1, r2, r3, r4, r5, r6, r7, r8, rl]) rfl (TakePost.bad He.out (by decide) (keeps_set9 Hrl.out.bx.kp _ (Nat.le_refl _) _ _ _ _ _ _ _ _ _))
      · obtain ⟨x, hx⟩ : ∃ x, numAt B i = x := ⟨_, rfl⟩
        have hsi : 8 * (i : Int) + 8 ≤ (B.length : Int) := by omega
        have hi8' : 8 * i + 8 ≤ B.length := by omega
        have hib : (i : Int) ≤ 1000000 := by omega
        have hrow := hrl.row
        rw [numsTo_length] at hrow
        clear hsho hi8
        by_cases e7 : i = 7
        · subst e7
          obtain rfl : x = z7 := by rw [← hx]; exact Hz7.out
          obtain rfl : wv = 9 := by omega
          have c7 : ((7 : Nat) : Int) = 7 := rfl
          rw [c7]
          by_cases bad : x < 0 ∨ 1 < x
          · have he : takeErr B = 4 := by unfold takeErr; rw [if_neg (by omega), hx, if_pos bad]
            have r0 : World.cell? _ (⟨w.heap.size, 0, none⟩ : Addr) = some (.int .i64 0) := cell_of_cells hrl.bx.blk 0
            have r1 : World.cell? _ (⟨w.heap.size, 1, none⟩ : Addr) = some (.int .i64 0) := cell_of_cells hrl.bx.blk 1
            have r2 : World.cell? _ (⟨w.heap.size, 2, none⟩ : Addr) = some (.int .i64 0) := cell_of_cells hrl.bx.blk 2
            have r3 : World.cell? _ (⟨w.heap.size, 3, none⟩ : Addr) = some (.int .i64 0) := cell_of_cells hrl.bx.blk 3
            have r4 : World.cell? _ (⟨w.heap.size, 4, none⟩ : Addr) = some (.slice none 0 0) := cell_of_cells hrl.bx.blk 4
            have r5 : World.cell? _ (⟨w.heap.size, 5, none⟩ : Addr) = some (.int .i64 0) := cell_of_cells hrl.bx.blk 5
            have r6 : World.cell? _ (⟨w.heap.size, 6, none⟩ : Addr) = some (.int .i64 0) := cell_of_cells hrl.bx.blk 6
            have r7 : World.cell? _ (⟨w.heap.size, 7, none⟩ : Addr) = some (.int .i64 0) := cell_of_cells hrl.bx.blk 7
            have r8 : World.cell? _ (⟨w.heap.size, 8, none⟩ : Addr) = some (.bool false) := cell_of_cells hrl.bx.blk 8
            have f0 := free_of_cells hrl.bx.blk 0
            have f1 := free_of_cells hrl.bx.blk 1
            have f2 := free_of_cells hrl.bx.blk 2
            have f3 := free_of_cells hrl.bx.blk 3
            have f4 := free_of_cells hrl.bx.blk 4
            have f5 := free_of_cells hrl.bx.blk 5
            have f6 := free_of_cells hrl.bx.blk 6
            have f7 := free_of_cells hrl.bx.blk 7
            have f8 := free_of_cells hrl.bx.blk 8
            have rl := lt_of_block hrl.bx.blk
            clear hwv h7 hiw
            have He := Lib.hid he; clear he; have Hrl := Lib.hid hrl; clear hrl; have Hx := Lib.hid hx; clear hx; have Hrow := Lib.hid hrow; clear hrow
            rcases bad with bad | bad
            ·
              go_wp2_with (go_at_call 36; refine (helpTake_is (p := 7) (x := _) (Hr.out.keeps Hrl.out.bx.kp (by simp)) HB.out hBl (by first | rfl | omega) hi8' Hx.out).mono ?_; rintro e w3 ⟨rfl, rfl⟩)
              exact bodyPost_ret (v := .tuple #[.agg #[.int .i64 0, .int .i64 0, .int .i64 0, .int .i64 0, .slice none 0 0, .int .i64 0, .int .i64 0, .int .i64 0, .bool false], .int .i64 4]) (by simp [results, Tryd.results15, go_sem, r0, r1, r2, r3, r4, r5, r6, r7, r8, rl]) rfl (TakePost.bad He.out (by decide) (keeps_set9 Hrl.out.bx.kp _ (Nat.le_refl _) _ _ _ _ _ _ _ _ _))
            · have bad' : ¬ x < 0 := by omega
              go_wp2_with (go_at_call 36; refine (helpTake_is (p := 7) (x := _) (Hr.out.keeps Hrl.out.bx.kp (by simp)) HB.out hBl (by first | rfl | omega) hi8' Hx.out).mono ?_; rintro e w3 ⟨rfl, rfl⟩)
              exact bodyPost_ret (v := .tuple #[.agg #[.int .i64 0, .int .i64 0, .int .i64 0, .int .i64 0, .slice none 0 0, .int .i64 0, .int .i64 0, .int .i64 0, .bool false], .int .i64 4]) (by simp [results, Tryd.results15, go_sem, r0, r1, r2, r3, r4, r5, r6, r7, r8, rl]) rfl (TakePost.bad He.out (by decide) (keeps_set9 Hrl.out.bx.kp _ (Nat.le_refl _) _ _ _ _ _ _ _ _ _))
          · obtain ⟨z7a, z7b⟩ : 0 ≤ x ∧ x ≤ 1 := by omega
            clear hwv h7 hiw bad
            have Hrl := Lib.hid hrl; clear hrl; have Hx := Lib.hid hx; clear hx; have Hrow := Lib.hid hrow; clear hrow
            go_wp2_with (first
              | (go_at_call 36; refine (helpTake_is (p := 7) (Hr.out.keeps Hrl.out.bx.kp (by simp)) HB.out hBl (by first | rfl | omega) hi8' Hx.out).mono ?_; rintro e w3 ⟨rfl, rfl⟩)
              | (at_builtin; refine wpList_append_row rfl (.tmp 54) (.tmp 56) 62 rfl 0 2 i0 _ 1 8 Tryd.underlying62 hi hi0 hi1 hi2 rfl (by decide) (.slice adv 7 capv) 7 _ rfl (Hrow.out.alloc _) _ 1 _ rfl (Reads.lit _ _ _ _ _ rfl) (by simp [Value.oneCell']) (by unfold maxLen; omega) (by omega) (by omega) ?_))
            intro v4 w4 ho4 hk4 hf4
            have Hs4 := Lib.hid (Hrl.out.app (M := [x]) (by rw [numsTo_length]; rfl) rfl ho4 ((Keeps.alloc _ _).trans (hk4.mono fun _ _ h => .inl h)) hf4)
            clear ho4 hk4 hf4
            go_wp2
            go_roundw
            case rel => exact ⟨8, _, 9, by go_num, rfl, rfl, by rw [show (8 : Nat) = 7 + 1 from rfl, numsTo_succ, Hx.out]; exact Hs4.out, by omega, by omega, by omega⟩
            case measure => simp [intOf]
        · by_cases e8 : i = 8
          · subst e8
            obtain rfl : x = z8 := by rw [← hx]; exact Hz8.out
            obtain rfl : wv = 9 := by omega
            have h77 := h7 (by omega)
            have c8 : ((8 : Nat) : Int) = 8 := rfl
            rw [c8]
            by_cases bad : x < 1 ∨ 8 < x
            · have he : takeErr B = 4 := by unfold takeErr; rw [if_neg (by omega), Hz7.out, if_neg (by omega), if_neg (by omega), hx, if_pos bad]
              have r0 : World.cell? _ (⟨w.heap.size, 0, none⟩ : Addr) = some (.int .i64 0) := cell_of_cells hrl.bx.blk 0
              have r1 : World.cell? _ (⟨w.heap.size, 1, none⟩ : Addr) = some (.int .i64 0) := cell_of_cells hrl.bx.blk 1
              have r2 : World.cell? _ (⟨w.heap.size, 2, none⟩ : Addr) = some (.int .i64 0) := cell_of_cells hrl.bx.blk 2
              have r3 : World.cell? _ (⟨w.heap.size, 3, none⟩ : Addr) = some (.int .i64 0) := cell_of_cells hrl.bx.blk 3
              have r4 : World.cell? _ (⟨w.heap.size, 4, none⟩ : Addr) = some (.slice none 0 0) := cell_of_cells hrl.bx.blk 4
              have r5 : World.cell? _ (⟨w.heap.size, 5, none⟩ : Addr) = some (.int .i64 0) := cell_of_cells hrl.bx.blk 5
              have r6 : World.cell? _ (⟨w.heap.size, 6, none⟩ : Addr) = some (.int .i64 0) := cell_of_cells hrl.bx.blk 6
              have r7 : World.cell? _ (⟨w.heap.size, 7, none⟩ : Addr) = some (.int .i64 0) := cell_of_cells hrl.bx.blk 7
              have r8 : World.cell? _ (⟨w.heap.size, 8, none⟩ : Addr) = some (.bool false) := cell_of_cells hrl.bx.blk 8
              have f0 := free_of_cells hrl.bx.blk 0
              have f1 := free_of_cells hrl.bx.blk 1
              have f2 := free_of_cells hrl.bx.blk 2
              have f3 := free_of_cells hrl.bx.blk 3
              have f4 := free_of_cells hrl.bx.blk 4
              have f5 := free_of_cells hrl.bx.blk 5
              have f6 := free_of_cells hrl.bx.blk 6
              have f7 := free_of_cells hrl.bx.blk 7
              have f8 := free_of_cells hrl.bx.blk 8
              have rl := lt_of_block hrl.bx.blk
              clear hwv h7 hiw e7 h77
              have He := Lib.hid he; clear he; have Hrl := Lib.hid hrl; clear hrl; have Hx := Lib.hid hx; clear hx; have Hrow := Lib.hid hrow; clear hrow
              rcases bad with bad | bad
              ·
                go_wp2_with (go_at_call 36; refine (helpTake_is (p := 8) (x := _) (Hr.out.keeps Hrl.out.bx.kp (by simp)) HB.out hBl (by first | rfl | omega) hi8' Hx.out).mono ?_; rintro e w3 ⟨rfl, rfl⟩)
                exact bodyPost_ret (v := .tuple #[.agg #[.int .i64 0, .int .i64 0, .int .i64 0, .int .i64 0, .slice none 0 0, .int .i64 0, .int .i64 0, .int .i64 0, .bool false], .int .i64 4]) (by simp [results, Tryd.results15, go_sem, r0, r1, r2, r3, r4, r5, r6, r7, r8, rl]) rfl (TakePost.bad He.out (by decide) (keeps_set9 Hrl.out.bx.kp _ (Nat.le_refl _) _ _ _ _ _ _ _ _ _))
              · have bad' : ¬ x < 1 := by omega
                go_wp2_with (go_at_call 36; refine (helpTake_is (p := 8) (x := _) (Hr.out.keeps Hrl.out.bx.kp (by simp)) HB.out hBl (by first | rfl | omega) hi8' Hx.out).mono ?_; rintro e w3 ⟨rfl, rfl⟩)
                exact bodyPost_ret (v := .tuple #[.agg #[.int .i64 0, .int .i64 0, .int .i64 0, .int .i64 0, .slice none 0 0, .int .i64 0, .int .i64 0, .int .i64 0, .bool false], .int .i64 4]) (by simp [results, Tryd.results15, go_sem, r0, r1, r2, r3, r4, r5, r6, r7, r8, rl]) rfl (TakePost.bad He.out (by decide) (keeps_set9 Hrl.out.bx.kp _ (Nat.le_refl _) _ _ _ _ _ _ _ _ _))
            · obtain ⟨z8a, z8b⟩ : 1 ≤ x ∧ x ≤ 8 := by omega
              clear hwv h7 hiw bad e7
              have Hrl := Lib.hid hrl; clear hrl; have Hx := Lib.hid hx; clear hx; have Hrow := Lib.hid hrow; clear hrow; have H77 := Lib.hid h77; clear h77
              go_wp2_with (first
                | (go_at_call 36; refine (helpTake_is (p := 8) (Hr.out.keeps Hrl.out.bx.kp (by simp)) HB.out hBl (by first | rfl | omega) hi8' Hx.out).mono ?_; rintro e w3 ⟨rfl, rfl⟩)
                | (at_builtin; refine wpList_append_row rfl (.tmp 54) (.tmp 56) 62 rfl 0 2 i0 _ 1 8 Tryd.underlying62 hi hi0 hi1 hi2 rfl (by decide) (.slice adv 8 capv) 8 _ rfl (Hrow.out.alloc _) _ 1 _ rfl (Reads.lit _ _ _ _ _ rfl) (by simp [Value.oneCell']) (by unfold maxLen; omega) (by omega) (by omega) ?_))
              intro v4 w4 ho4 hk4 hf4
              have Hs4 := Lib.hid (Hrl.out.app (M := [x]) (by rw [numsTo_length]; rfl) rfl ho4 ((Keeps.alloc _ _).trans (hk4.mono fun _ _ h => .inl h)) hf4)
              clear ho4 hk4 hf4
              go_wp2
              go_roundw
              case rel => exact ⟨9, _, 9 + 3 * x, by go_num, rfl, rfl, by rw [show (9 : Nat) = 8 + 1 from rfl, numsTo_succ, Hx.out]; exact Hs4.out, by omega, fun _ => H77.out, by omega⟩
              case measure => simp [intOf]
          · have e7' : ¬ (i : Int) = 7 := by omega
            have e8' : ¬ (i : Int) = 8 := by omega
            have hi33 : i < 33 := by omega
            have hnx : (i + 1 ≤ 8 ∧ wv = 9) ∨ (9 ≤ i + 1 ∧ wv = 9 + 3 * z8 ∧ ((i + 1 : Nat) : Int) ≤ wv ∧ 1 ≤ z8 ∧ z8 ≤ 8) := by omega
            have h7' : 7 < i + 1 → 0 ≤ z7 ∧ z7 ≤ 1 := fun h => h7 (by omega)
            clear hwv h7
            have Hrl := Lib.hid hrl; clear hrl; have Hx := Lib.hid hx; clear hx; have Hrow := Lib.hid hrow; clear hrow; have Hnx := Lib.hid hnx; clear hnx; have H7' := Lib.hid h7'; clear h7'
            go_wp2_with (first
              | (go_at_call 36; refine (helpTake_is (p := i) (Hr.out.keeps Hrl.out.bx.kp (by simp)) HB.out hBl (by first | rfl | omega) hi8' Hx.out).mono ?_; rintro e w3 ⟨rfl, rfl⟩)
              | (at_builtin; refine wpList_append_row rfl (.tmp 54) (.tmp 56) 62 rfl 0 2 i0 _ 1 8 Tryd.underlying62 hi hi0 hi1 hi2 rfl (by decide) (.slice adv i capv) i _ rfl (Hrow.out.alloc _) _ 1 _ rfl (Reads.lit _ _ _ _ _ rfl) (by simp [Value.oneCell']) (by unfold maxLen; omega) (by omega) (by omega) ?_))
            intro v4 w4 ho4 hk4 hf4
            have Hs4 := Lib.hid (Hrl.out.app (M := [x]) (by rw [numsTo_length]; rfl) rfl ho4 ((Keeps.alloc _ _).trans (hk4.mono fun _ _ h => .inl h)) hf4)
            clear ho4 hk4 hf4
            go_wp2
            go_roundw
            case rel => exact ⟨i + 1, _, wv, by go_num, rfl, rfl, by rw [numsTo_succ, Hx.out]; exact Hs4.out, by omega, H7'.out, Hnx.out⟩
            case measure => simp [intOf]; omega
    · obtain ⟨k, hk⟩ : ∃ k : Nat, z8 = (k : Int) := ⟨z8.toNat, by omega⟩
      have hik : i = 9 + 3 * k := by omega
      have hk8 : k ≤ 8 := by omega
      have hk1 : 1 ≤ k := by omega
      have hwv' : wv = 9 + 3 * (k : Int) := by omega
      have h77 := h7 (by omega)
      have hi9 : 9 ≤ i := by omega
      obtain ⟨g, cap0, hv, hgl⟩ := owns_some hrl.row (by rw [numsTo_length]; omega)
      rw [numsTo_length] at hv
      simp only [Value.slice.injEq, true_and] at hv
      obtain ⟨rfl, rfl⟩ := hv
      have hrow := hrl.row
      rw [numsTo_length] at hrow
      have hcell : ∀ (q : Nat) (W : World), q < i → W.ownsRow 0 2 1 (.slice (some ⟨g, 0, none⟩) i capv) i ((numsTo B i).flatMap i64c) → W.cell? ⟨g, q, none⟩ = some (.int .i64 (numAt B q)) := fun q W hq ho => by
        have ho' : W.ownsRow 0 2 1 (.slice (some ⟨g, 0, none⟩) (numsTo B i).length capv) (numsTo B i).length ((numsTo B i).flatMap i64c) := by rw [numsTo_length]; exact ho
        have := owns_elem i64c_length ho' (numsTo_get B hq) 0 (by decide)
        simpa [i64c] using this
      obtain ⟨z0, hz0⟩ : ∃ z, numAt B 0 = z := ⟨_, rfl⟩
      obtain ⟨z1, hz1⟩ : ∃ z, numAt B 1 = z := ⟨_, rfl⟩
      obtain ⟨z2, hz2⟩ : ∃ z, numAt B 2 = z := ⟨_, rfl⟩
      obtain ⟨z3, hz3⟩ : ∃ z, numAt B 3 = z := ⟨_, rfl⟩
      obtain ⟨z4, hz4⟩ : ∃ z, numAt B 4 = z := ⟨_, rfl⟩
      obtain ⟨z5, hz5⟩ : ∃ z, numAt B 5 = z := ⟨_, rfl⟩
      obtain ⟨z6, hz6⟩ : ∃ z, numAt B 6 = z := ⟨_, rfl⟩
      have x0 := hcell 0 wr (by omega) hrow
      have x1 := hcell 1 wr (by omega) hrow
      have x2 := hcell 2 wr (by omega) hrow
      have x3 := hcell 3 wr (by omega) hrow
      have x4 := hcell 4 wr (by omega) hrow
      have x5 := hcell 5 wr (by omega) hrow
      have x6 := hcell 6 wr (by omega) hrow
      have x7 := hcell 7 wr (by omega) hrow
      rw [hz0] at x0
      rw [hz1] at x1
      rw [hz2] at x2
      rw [hz3] at x3
      rw [hz4] at x4
      rw [hz5] at x5
      rw [hz6] at x6
      rw [Hz7.out] at x7
      have hnw : ¬ (i : Int) < wv := by omega
      have hi33 : i ≤ 33 := by omega
      obtain ⟨wo, rfl⟩ : ∃ wo : World, wo = wr := ⟨_, rfl⟩
      have hrt0 := (RT.new hrl #[.int .i64 z0, .int .i64 z1, .int .i64 z2, .int .i64 z3, .slice none 0 0, .int .i64 z4, .int .i64 z5, .int .i64 z6, .bool (z7 == 1)]).keep (Keeps.drew _)
      clear hwv h7 hiw
      have hi9' : (9 : Int) ≤ (i : Int) := by omega
      have Hrl := Lib.hid hrl; clear hrl; have Hk := Lib.hid hk; clear hk; have Hik := Lib.hid hik; clear hik; have Hk8 := Lib.hid hk8; clear hk8; have Hk1 := Lib.hid hk1; clear hk1; have Hwv' := Lib.hid hwv'; clear hwv'; have H77 := Lib.hid h77; clear h77; have Hrow := Lib.hid hrow; clear hrow; have Hcell := Lib.hid hcell; clear hcell; have Hz0 := Lib.hid hz0; clear hz0; have Hz1 := Lib.hid hz1; clear hz1; have Hz2 := Lib.hid hz2; clear hz2; have Hz3 := Lib.hid hz3; clear hz3; have Hz4 := Lib.hid hz4; clear hz4; have Hz5 := Lib.hid hz5; clear hz5; have Hz6 := Lib.hid hz6; clear hz6; have Hi8 := Lib.hid hi8; clear hi8; have Hrt0 := Lib.hid hrt0; clear hrt0
      have hS : ∀ W, Keeps (fun _ => False) wo W → W.cell? ⟨g, 0, none⟩ = some (.int .i64 z0) ∧ W.cell? ⟨g, 1, none⟩ = some (.int .i64 z1) ∧ W.cell? ⟨g, 2, none⟩ = some (.int .i64 z2) ∧ W.cell? ⟨g, 3, none⟩ = some (.int .i64 z3) ∧ W.cell? ⟨g, 4, none⟩ = some (.int .i64 z4) ∧ W.cell? ⟨g, 5, none⟩ = some (.int .i64 z5) ∧ W.cell? ⟨g, 6, none⟩ = some (.int .i64 z6) ∧ W.cell? ⟨g, 7, none⟩ = some (.int .i64 z7) := fun W hW =>
        ⟨(hW.cell (p := ⟨g, 0, none⟩) hgl (by simp)).trans x0, (hW.cell (p := ⟨g, 1, none⟩) hgl (by simp)).trans x1, (hW.cell (p := ⟨g, 2, none⟩) hgl (by simp)).trans x2, (hW.cell (p := ⟨g, 3, none⟩) hgl (by simp)).trans x3, (hW.cell (p := ⟨g, 4, none⟩) hgl (by simp)).trans x4, (hW.cell (p := ⟨g, 5, none⟩) hgl (by simp)).trans x5, (hW.cell (p := ⟨g, 6, none⟩) hgl (by simp)).trans x6, (hW.cell (p := ⟨g, 7, none⟩) hgl (by simp)).trans x7⟩
      have HS := Lib.hid hS; clear hS
      go_wp2
      clear x0 x1 x2 x3 x4 x5 x6 x7
      have c0 : (0 : Int) < (i : Int) := by omega
      have c1 : (1 : Int) < (i : Int) := by omega
      have c2 : (2 : Int) < (i : Int) := by omega
      have c3 : (3 : Int) < (i : Int) := by omega
      have c4 : (4 : Int) < (i : Int) := by omega
      have c5 : (5 : Int) < (i : Int) := by omega
      have c6 : (6 : Int) < (i : Int) := by omega
      have c7 : (7 : Int) < (i : Int) := by omega
      have d0 : 0 < i := by omega
      have d1 : 1 < i := by omega
      have d2 : 2 < i := by omega
      have d3 : 3 < i := by omega
      have d4 : 4 < i := by omega
      have d5 : 5 < i := by omega
      have d6 : 6 < i := by omega
      have d7 : 7 < i := by omega
      go_region_held3 (fun w' => w'.cell? ⟨g, 0, none⟩ = some (.int .i64 z0) ∧ w'.cell? ⟨g, 1, none⟩ = some (.int .i64 z1) ∧ w'.cell? ⟨g, 2, none⟩ = some (.int .i64 z2) ∧ w'.cell? ⟨g, 3, none⟩ = some (.int .i64 z3) ∧ w'.cell? ⟨g, 4, none⟩ = some (.int .i64 z4) ∧ w'.cell? ⟨g, 5, none⟩ = some (.int .i64 z5) ∧ w'.cell? ⟨g, 6, none⟩ = some (.int .i64 z6) ∧ w'.cell? ⟨g, 7, none⟩ = some (.int .i64 z7)) (first | exact HS.out _ (Keeps.refl _ _) | exact HS.out _ (Keeps.drew _) | exact HS.out _ (Keeps.alloc _ _) | exact HS.out _ ((Keeps.alloc _ _).trans (Keeps.drew _)) | exact HS.out _ ((Keeps.drew _).trans (Keeps.alloc _ _))) (first | fail)
      go_wp2
      go_loopw [9] (fun c wr => ∃ (j m : Nat) (v : Value), j ≤ k ∧ m = 9 + 3 * j ∧ c = .int .i64 (m : Nat) ∧ RT w wr (.slice (some ⟨g, 0, none⟩) i capv) (numsTo B i) wo.heap.size #[.int .i64 z0, .int .i64 z1, .int .i64 z2, .int .i64 z3, v, .int .i64 z4, .int .i64 z5, .int .i64 z6, .bool (z7 == 1)] v (lnsAt B j)) (fun c _ => (36 - intOf c).toNat)
      case atStart => exact ⟨0, 9, _, Nat.zero_le _, rfl, rfl, Hrt0.out⟩
      case round =>
        obtain ⟨j, m, v, hjk, hm, rfl, hrt⟩ := hrel
        have hsh := ownsRow_shape hrt.row
        rw [lnsAt_length] at hsh
        obtain ⟨ads, caps, rfl, _, _⟩ := hsh
        have t4 : wr.cell? ⟨wo.heap.size, 4, none⟩ = some (.slice ads j caps) := cell_of_cells hrt.blk 4
        have tl := lt_of_block hrt.blk
        have hrow2 := hrt.rl.row
        rw [numsTo_length] at hrow2
        have hik' := Hik.out
        have hk8' := Hk8.out
        have hj8 : j ≤ 8 := by omega
        by_cases hjl : j < k
        · obtain ⟨y0, hy0⟩ : ∃ z, numAt B m = z := ⟨_, rfl⟩
          obtain ⟨y1, hy1⟩ : ∃ z, numAt B (m + 1) = z := ⟨_, rfl⟩
          obtain ⟨y2, hy2⟩ : ∃ z, numAt B (m + 2) = z := ⟨_, rfl⟩
          have hnx : lnsAt B (j + 1) = lnsAt B j ++ [⟨y0, y1, y2⟩] := by rw [lnsAt, lnAt, ← hm, hy0, hy1, hy2]
          have x0 := Hcell.out m wr (by omega) hrow2
          have x1 := Hcell.out (m + 1) wr (by omega) hrow2
          have x2 := Hcell.out (m + 2) wr (by omega) hrow2
          rw [hy0] at x0
          rw [hy1] at x1
          rw [hy2] at x2
          have mw : (m : Int) < wv := by rw [Hwv'.out]; omega
          have m0 : (m : Int) < (i : Int) := by omega
          have m1 : (m : Int) + 1 < (i : Int) := by omega
          have m2 : (m : Int) + 2 < (i : Int) := by omega
          have m3 : (0 : Int) ≤ (m : Int) + 1 := by omega
          have m4 : (0 : Int) ≤ (m : Int) + 2 := by omega
          have m5 : ((m : Int) + 1).toNat = m + 1 := by omega
          have m6 : ((m : Int) + 2).toNat = m + 2 := by omega
          have m7 : IntKind.i64.wrap ((m : Int) + 1) = (m : Int) + 1 := IntWalk.i64_in _ (by omega)
          have m8 : IntKind.i64.wrap ((m : Int) + 2) = (m : Int) + 2 := IntWalk.i64_in _ (by omega)
          have m9 : IntKind.i64.wrap ((m : Int) + 3) = (m : Int) + 3 := IntWalk.i64_in _ (by omega)
          have hrtd := hrt.keep (Keeps.drew (S := fun _ => False) wr)
          have hrowd := hrtd.row
          rw [lnsAt_length] at hrowd
          have hm33 : m ≤ 33 := by omega
          have hjk1 : j + 1 ≤ k := by omega
          clear hik' hk8' hjl
          have Hrt := Lib.hid hrt; clear hrt; have Hrow2 := Lib.hid hrow2; clear hrow2; have Hnx := Lib.hid hnx; clear hnx; have Hy0 := Lib.hid hy0; clear hy0; have Hy1 := Lib.hid hy1; clear hy1; have Hy2 := Lib.hid hy2; clear hy2; have Hm := Lib.hid hm; clear hm; have Hjk := Lib.hid hjk; clear hjk; have Hjk1 := Lib.hid hjk1; clear hjk1; have Hrtd := Lib.hid hrtd; clear hrtd; have Hrowd := Lib.hid hrowd; clear hrowd
          go_wp2
          go_region_law (first
            | (refine step_append_row rfl (.tmp 91) (.tmp 107) 24 rfl 0 30 j0 _ 3 24 Tryd.underlying24 bj bj0 bj1 bj2 rfl (by decide) (.slice ads j caps) j _ rfl (by first | exact Hrowd.out.alloc _ | exact Hrowb.out) _ 1 [.int .i64 y0, .int .i64 y1, .int .i64 y2] rfl (Reads.litAt _ _ _ _ _ _ (by simp) rfl) (by simp [Value.oneCell']) (by unfold maxLen; omega) (by omega) (by omega) ?_; intro v4 w4 ho4 hk4 hf4; obtain ⟨ad4, cap4, rfl, _, _⟩ := ownsRow_shape ho4; have hs4 := Hrt.out.app ⟨y0, y1, y2⟩ (by rw [lnsAt_length]) rfl ho4 (by first | exact ((Keeps.alloc wr _).trans (Keeps.drew _)).trans (hk4.mono fun _ _ h => .inl h) | exact ((Keeps.drew wr).trans (Keeps.alloc _ _)).trans (hk4.mono fun _ _ h => .inl h)) (by rcases hf4 with e | ⟨g', h1, h2⟩; exact .inl e; (right; refine ⟨g', h1, ?_⟩; simp at h2; omega)); have t4 : w4.cell? ⟨wo.heap.size, 4, none⟩ = some (.slice ads j caps) := cell_of_cells hs4.blk 4; have f4 := free_of_cells hs4.blk 4; have tl := lt_of_block hs4.blk; have Hs4 := Lib.hid hs4; clear hs4 ho4 hk4 hf4))
          all_goals
            go_wp2
            go_roundw
            case rel => exact ⟨j + 1, m + 3, _, Hjk1.out, by rw [Hm.out]; omega, by go_num, by rw [Hnx.out]; exact Hs4.out.set 4 (.slice ad4 (j + 1) cap4)⟩
            case measure => simp [intOf]; omega
        · obtain rfl : j = k := by omega
          have hk1' := Hk1.out
          have hwv1 := Hwv'.out
          have hkz := Hk.out
          have hi8' := Hi8.out
          have h77' := H77.out
          have mw : ¬ (m : Int) < wv := by omega
          have wv0 : 9 ≤ wv := by omega
          have wv1 : wv ≤ 33 := by omega
          obtain ⟨s, hs⟩ : ∃ s, s = (⟨z0, z1, z2, z3, z4, z5, z6, z7 == 1, lnsAt B j⟩ : Stm) := ⟨_, rfl⟩
          have hstm : stmAt B = s := by
            unfold stmAt
            rw [Hz0.out, Hz1.out, Hz2.out, Hz3.out, Hz4.out, Hz5.out, Hz6.out, Hz7.out, Hz8.out, hkz, hs, show (j : Int).toNat = j by omega]
          have hv : s.val (.slice ads j caps) = .agg #[.int .i64 z0, .int .i64 z1, .int .i64 z2, .int .i64 z3, .slice ads j caps, .int .i64 z4, .int .i64 z5, .int .i64 z6, .bool (z7 == 1)] := by rw [hs]; rfl
          have hsl : s.lines = lnsAt B j := by rw [hs]
          have hrt' : Calls Tryd.prog 16 #[.agg #[.int .i64 z0, .int .i64 z1, .int .i64 z2, .int .i64 z3, .slice ads j caps, .int .i64 z4, .int .i64 z5, .int .i64 z6, .bool (z7 == 1)]] wr fun e w' => e = .returned (.bool s.rightB) ∧ Keeps (fun _ => False) wr w' := by
            rw [← hv]
            have hll : s.lines.length = j := by rw [hsl, lnsAt_length]
            have := rpageRight_any s ads caps wr (by rw [hll, hsl]; have := Reads.of_owns hrt.row; rw [lnsAt_length] at this; exact this) (by omega)
            rw [hll] at this; exact this
          have hco : takeErr B = if (B.length : Int) = 72 + 24 * (j : Int) ∧ s.rightB = true then 0 else 4 := by
            unfold takeErr
            rw [Hz7.out, Hz8.out, hstm, hkz, if_neg (by omega), if_neg (by omega), if_neg (by omega), if_neg (by omega), if_neg (by omega)]
          have u0 : wr.cell? ⟨wo.heap.size, 0, none⟩ = some (.int .i64 z0) := cell_of_cells hrt.blk 0
          have u1 : wr.cell? ⟨wo.heap.size, 1, none⟩ = some (.int .i64 z1) := cell_of_cells hrt.blk 1
          have u2 : wr.cell? ⟨wo.heap.size, 2, none⟩ = some (.int .i64 z2) := cell_of_cells hrt.blk 2
          have u3 : wr.cell? ⟨wo.heap.size, 3, none⟩ = some (.int .i64 z3) := cell_of_cells hrt.blk 3
          have u5 : wr.cell? ⟨wo.heap.size, 5, none⟩ = some (.int .i64 z4) := cell_of_cells hrt.blk 5
          have u6 : wr.cell? ⟨wo.heap.size, 6, none⟩ = some (.int .i64 z5) := cell_of_cells hrt.blk 6
          have u7 : wr.cell? ⟨wo.heap.size, 7, none⟩ = some (.int .i64 z6) := cell_of_cells hrt.blk 7
          have u8 : wr.cell? ⟨wo.heap.size, 8, none⟩ = some (.bool (z7 == 1)) := cell_of_cells hrt.blk 8
          by_cases hlen : 8 * wv < (B.length : Int)
          · have he : takeErr B = 4 := by rw [hco, if_neg (by omega)]
            clear hco hik' hk8' hk1' hwv1 hkz hi8' h77' hjl hj8 u0 u1 u2 u3 u5 u6 u7 u8
            have r0 : World.cell? _ (⟨w.heap.size, 0, none⟩ : Addr) = some (.int .i64 0) := cell_of_cells hrt.rl.bx.blk 0
            have r1 : World.cell? _ (⟨w.heap.size, 1, none⟩ : Addr) = some (.int .i64 0) := cell_of_cells hrt.rl.bx.blk 1
            have r2 : World.cell? _ (⟨w.heap.size, 2, none⟩ : Addr) = some (.int .i64 0) := cell_of_cells hrt.rl.bx.blk 2
            have r3 : World.cell? _ (⟨w.heap.size, 3, none⟩ : Addr) = some (.int .i64 0) := cell_of_cells hrt.rl.bx.blk 3
            have r4 : World.cell? _ (⟨w.heap.size, 4, none⟩ : Addr) = some (.slice none 0 0) := cell_of_cells hrt.rl.bx.blk 4
            have r5 : World.cell? _ (⟨w.heap.size, 5, none⟩ : Addr) = some (.int .i64 0) := cell_of_cells hrt.rl.bx.blk 5
            have r6 : World.cell? _ (⟨w.heap.size, 6, none⟩ : Addr) = some (.int .i64 0) := cell_of_cells hrt.rl.bx.blk 6
            have r7 : World.cell? _ (⟨w.heap.size, 7, none⟩ : Addr) = some (.int .i64 0) := cell_of_cells hrt.rl.bx.blk 7
            have r8 : World.cell? _ (⟨w.heap.size, 8, none⟩ : Addr) = some (.bool false) := cell_of_cells hrt.rl.bx.blk 8
            have f0 := free_of_cells hrt.rl.bx.blk 0
            have f1 := free_of_cells hrt.rl.bx.blk 1
            have f2 := free_of_cells hrt.rl.bx.blk 2
            have f3 := free_of_cells hrt.rl.bx.blk 3
            have f4 := free_of_cells hrt.rl.bx.blk 4
            have f5 := free_of_cells hrt.rl.bx.blk 5
            have f6 := free_of_cells hrt.rl.bx.blk 6
            have f7 := free_of_cells hrt.rl.bx.blk 7
            have f8 := free_of_cells hrt.rl.bx.blk 8
            have rl := lt_of_block hrt.rl.bx.blk
            have He := Lib.hid he; clear he; have Hrt := Lib.hid hrt; clear hrt; have Hrow2 := Lib.hid hrow2; clear hrow2; have Hm := Lib.hid hm; clear hm; have Hjk := Lib.hid hjk; clear hjk; have Hrt' := Lib.hid hrt'; clear hrt'; have Hv := Lib.hid hv; clear hv; have Hsl := Lib.hid hsl; clear hsl; have Hstm := Lib.hid hstm; clear hstm; have Hs := Lib.hid hs; clear hs
            go_wp2
            exact bodyPost_ret (v := .tuple #[.agg #[.int .i64 0, .int .i64 0, .int .i64 0, .int .i64 0, .slice none 0 0, .int .i64 0, .int .i64 0, .int .i64 0, .bool false], .int .i64 4]) (by simp [results, Tryd.results15, go_sem, r0, r1, r2, r3, r4, r5, r6, r7, r8, rl]) rfl (TakePost.bad He.out (by decide) (keeps_set9 Hrt.out.rl.bx.kp _ (Nat.le_refl _) _ _ _ _ _ _ _ _ _))
          · rcases hrb : s.rightB with _ | _
            · have he : takeErr B = 4 := by rw [hco, if_neg (by rw [hrb]; simp)]
              rw [hrb] at hrt'
              clear hco hik' hk8' hk1' hwv1 hkz hi8' h77' hjl hj8
              have He := Lib.hid he; clear he; have Hrt := Lib.hid hrt; clear hrt; have Hrow2 := Lib.hid hrow2; clear hrow2; have Hm := Lib.hid hm; clear hm; have Hjk := Lib.hid hjk; clear hjk; have Hrt' := Lib.hid hrt'; clear hrt'; have Hv := Lib.hid hv; clear hv; have Hsl := Lib.hid hsl; clear hsl; have Hstm := Lib.hid hstm; clear hstm; have Hs := Lib.hid hs; clear hs
              go_wp2_with fail
              refine Hrt'.out.mono ?_
              rintro e w9 ⟨rfl, hk9⟩
              have Hr9 := Lib.hid (Hrt.out.keep hk9)
              clear hk9 u0 u1 u2 u3 u5 u6 u7 u8
              have r0 : World.cell? _ (⟨w.heap.size, 0, none⟩ : Addr) = some (.int .i64 0) := cell_of_cells Hr9.out.rl.bx.blk 0
              have r1 : World.cell? _ (⟨w.heap.size, 1, none⟩ : Addr) = some (.int .i64 0) := cell_of_cells Hr9.out.rl.bx.blk 1
              have r2 : World.cell? _ (⟨w.heap.size, 2, none⟩ : Addr) = some (.int .i64 0) := cell_of_cells Hr9.out.rl.bx.blk 2
              have r3 : World.cell? _ (⟨w.heap.size, 3, none⟩ : Addr) = some (.int .i64 0) := cell_of_cells Hr9.out.rl.bx.blk 3
              have r4 : World.cell? _ (⟨w.heap.size, 4, none⟩ : Addr) = some (.slice none 0 0) := cell_of_cells Hr9.out.rl.bx.blk 4
              have r5 : World.cell? _ (⟨w.heap.size, 5, none⟩ : Addr) = some (.int .i64 0) := cell_of_cells Hr9.out.rl.bx.blk 5
              have r6 : World.cell? _ (⟨w.heap.size, 6, none⟩ : Addr) = some (.int .i64 0) := cell_of_cells Hr9.out.rl.bx.blk 6
              have r7 : World.cell? _ (⟨w.heap.size, 7, none⟩ : Addr) = some (.int .i64 0) := cell_of_cells Hr9.out.rl.bx.blk 7
              have r8 : World.cell? _ (⟨w.heap.size, 8, none⟩ : Addr) = some (.bool false) := cell_of_cells Hr9.out.rl.bx.blk 8
              have f0 := free_of_cells Hr9.out.rl.bx.blk 0
              have f1 := free_of_cells Hr9.out.rl.bx.blk 1
              have f2 := free_of_cells Hr9.out.rl.bx.blk 2
              have f3 := free_of_cells Hr9.out.rl.bx.blk 3
              have f4 := free_of_cells Hr9.out.rl.bx.blk 4
              have f5 := free_of_cells Hr9.out.rl.bx.blk 5
              have f6 := free_of_cells Hr9.out.rl.bx.blk 6
              have f7 := free_of_cells Hr9.out.rl.bx.blk 7
              have f8 := free_of_cells Hr9.out.rl.bx.blk 8
              have rl := lt_of_block Hr9.out.rl.bx.blk
              go_wp2
              exact bodyPost_ret (v := .tuple #[.agg #[.int .i64 0, .int .i64 0, .int .i64 0, .int .i64 0, .slice none 0 0, .int .i64 0, .int .i64 0, .int .i64 0, .bool false], .int .i64 4]) (by simp [results, Tryd.results15, go_sem, r0, r1, r2, r3, r4, r5, r6, r7, r8, rl]) rfl (TakePost.bad He.out (by decide) (keeps_set9 Hr9.out.rl.bx.kp _ (Nat.le_refl _) _ _ _ _ _ _ _ _ _))
            · have he : takeErr B = 0 := by rw [hco, if_pos ⟨by omega, hrb⟩]
              have hts : takeStm B = s := by rw [takeStm, if_pos he, hstm]
              rw [hrb] at hrt'
              clear hco hik' hk8' hk1' hwv1 hkz hi8' h77' hjl hj8
              have He := Lib.hid he; clear he; have Hrt := Lib.hid hrt; clear hrt; have Hrow2 := Lib.hid hrow2; clear hrow2; have Hm := Lib.hid hm; clear hm; have Hjk := Lib.hid hjk; clear hjk; have Hrt' := Lib.hid hrt'; clear hrt'; have Hv := Lib.hid hv; clear hv; have Hsl := Lib.hid hsl; clear hsl; have Hstm := Lib.hid hstm; clear hstm; have Hs := Lib.hid hs; clear hs; have Hts := Lib.hid hts; clear hts
              go_wp2_with fail
              refine Hrt'.out.mono ?_
              rintro e w9 ⟨rfl, hk9⟩
              have Hr9 := Lib.hid (Hrt.out.keep hk9)
              clear hk9 u0 u1 u2 u3 u5 u6 u7 u8 t4 tl
              have u0 : w9.cell? ⟨wo.heap.size, 0, none⟩ = some (.int .i64 z0) := cell_of_cells Hr9.out.blk 0
              have u1 : w9.cell? ⟨wo.heap.size, 1, none⟩ = some (.int .i64 z1) := cell_of_cells Hr9.out.blk 1
              have u2 : w9.cell? ⟨wo.heap.size, 2, none⟩ = some (.int .i64 z2) := cell_of_cells Hr9.out.blk 2
              have u3 : w9.cell? ⟨wo.heap.size, 3, none⟩ = some (.int .i64 z3) := cell_of_cells Hr9.out.blk 3
              have u4 : w9.cell? ⟨wo.heap.size, 4, none⟩ = some (.slice ads j caps) := cell_of_cells Hr9.out.blk 4
              have u5 : w9.cell? ⟨wo.heap.size, 5, none⟩ = some (.int .i64 z4) := cell_of_cells Hr9.out.blk 5
              have u6 : w9.cell? ⟨wo.heap.size, 6, none⟩ = some (.int .i64 z5) := cell_of_cells Hr9.out.blk 6
              have u7 : w9.cell? ⟨wo.heap.size, 7, none⟩ = some (.int .i64 z6) := cell_of_cells Hr9.out.blk 7
              have u8 : w9.cell? ⟨wo.heap.size, 8, none⟩ = some (.bool (z7 == 1)) := cell_of_cells Hr9.out.blk 8
              have r0 : World.cell? _ (⟨w.heap.size, 0, none⟩ : Addr) = some (.int .i64 0) := cell_of_cells Hr9.out.rl.bx.blk 0
              have r1 : World.cell? _ (⟨w.heap.size, 1, none⟩ : Addr) = some (.int .i64 0) := cell_of_cells Hr9.out.rl.bx.blk 1
              have r2 : World.cell? _ (⟨w.heap.size, 2, none⟩ : Addr) = some (.int .i64 0) := cell_of_cells Hr9.out.rl.bx.blk 2
              have r3 : World.cell? _ (⟨w.heap.size, 3, none⟩ : Addr) = some (.int .i64 0) := cell_of_cells Hr9.out.rl.bx.blk 3
              have r4 : World.cell? _ (⟨w.heap.size, 4, none⟩ : Addr) = some (.slice none 0 0) := cell_of_cells Hr9.out.rl.bx.blk 4
              have r5 : World.cell? _ (⟨w.heap.size, 5, none⟩ : Addr) = some (.int .i64 0) := cell_of_cells Hr9.out.rl.bx.blk 5
              have r6 : World.cell? _ (⟨w.heap.size, 6, none⟩ : Addr) = some (.int .i64 0) := cell_of_cells Hr9.out.rl.bx.blk 6
              have r7 : World.cell? _ (⟨w.heap.size, 7, none⟩ : Addr) = some (.int .i64 0) := cell_of_cells Hr9.out.rl.bx.blk 7
              have r8 : World.cell? _ (⟨w.heap.size, 8, none⟩ : Addr) = some (.bool false) := cell_of_cells Hr9.out.rl.bx.blk 8
              have f0 := free_of_cells Hr9.out.rl.bx.blk 0
              have f1 := free_of_cells Hr9.out.rl.bx.blk 1
              have f2 := free_of_cells Hr9.out.rl.bx.blk 2
              have f3 := free_of_cells Hr9.out.rl.bx.blk 3
              have f4 := free_of_cells Hr9.out.rl.bx.blk 4
              have f5 := free_of_cells Hr9.out.rl.bx.blk 5
              have f6 := free_of_cells Hr9.out.rl.bx.blk 6
              have f7 := free_of_cells Hr9.out.rl.bx.blk 7
              have f8 := free_of_cells Hr9.out.rl.bx.blk 8
              have rl := lt_of_block Hr9.out.rl.bx.blk
              go_wp2
              have hend : ∀ x0 x1 x2 x3 x4 x5 x6 x7 x8 : Value, let W := (((((((((w9.setCell ⟨w.heap.size, 0, none⟩ x0).setCell ⟨w.heap.size, 1, none⟩ x1).setCell ⟨w.heap.size, 2, none⟩ x2).setCell ⟨w.heap.size, 3, none⟩ x3).setCell ⟨w.heap.size, 4, none⟩ x4).setCell ⟨w.heap.size, 5, none⟩ x5).setCell ⟨w.heap.size, 6, none⟩ x6).setCell ⟨w.heap.size, 7, none⟩ x7).setCell ⟨w.heap.size, 8, none⟩ x8)
                  TakePost B w (.returned (.tuple #[.agg #[.int .i64 z0, .int .i64 z1, .int .i64 z2, .int .i64 z3, .slice ads j caps, .int .i64 z4, .int .i64 z5, .int .i64 z6, .bool (z7 == 1)], .int .i64 0])) W := by
                intro x0 x1 x2 x3 x4 x5 x6 x7 x8 W
                have hkW : Keeps (fun q => q = w.heap.size) w9 W :=
                  ((((((((Keeps.setCell (S := fun q => q = w.heap.size) w9 ⟨w.heap.size, 0, none⟩ x0 rfl).trans (Keeps.setCell _ _ _ (.inl rfl))).trans (Keeps.setCell _ _ _ (.inl rfl))).trans (Keeps.setCell _ _ _ (.inl rfl))).trans (Keeps.setCell _ _ _ (.inl rfl))).trans (Keeps.setCell _ _ _ (.inl rfl))).trans (Keeps.setCell _ _ _ (.inl rfl))).trans (Keeps.setCell _ _ _ (.inl rfl))).trans (Keeps.setCell _ _ _ (.inl rfl))
                refine ⟨.slice ads j caps, by rw [Hts.out, He.out, Hv.out], ?_, fun g hg => by have := Hr9.out.nw g hg; omega, Hr9.out.rl.bx.kp.trans (hkW.mono fun q _ hq => by right; omega)⟩
                rw [Hts.out, Hsl.out]
                exact hkW.row Hr9.out.row (fun g hg e => by have := Hr9.out.nw g hg; omega)
              have Hend := Lib.hid hend
              clear hend
              exact bodyPost_ret (v := .tuple #[.agg #[.int .i64 z0, .int .i64 z1, .int .i64 z2, .int .i64 z3, .slice ads j caps, .int .i64 z4, .int .i64 z5, .int .i64 z6, .bool (z7 == 1)], .int .i64 0]) (by simp [results, Tryd.results15, go_sem, r0, r1, r2, r3, r4, r5, r6, r7, r8, rl]) rfl (Hend.out _ _ _ _ _ _ _ _ _)
end Go.Proofs.YthokcmbgamanbaaDoor
