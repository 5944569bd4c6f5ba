/- The walks of the page layer: the document's Pack. -/
import Derived.Test.YthokcmbgamanbaaDoorPage10
import Derived.Test.YthokcmbgamanbaaDoorPage3
import Derived.StillTailTactics
namespace Go.Proofs.YthokcmbgamanbaaDoor
open Go.RowKit
theorem info_tInt64 : (Tryd.prog.info? 2).map (fun i => (i.zero, i.size, i.bytes)) = some (some (.int .i64 0), 1, 8) := by kernel_rfl
theorem owns_lit (w : World) (cs : Array Value) (e : TypeId) (size n B : Nat) (hB : B = w.heap.size) (hs : cs.size = n * size) (hn : n ≤ maxLen) : (w.alloc (.cells cs e)).ownsRow 0 e size (.slice (some ⟨B, 0, none⟩) n n) n cs.toList := by
  subst hB
  refine ⟨by simpa using hs, .inr ⟨_, n, cs, rfl, Nat.zero_le _, heap_alloc_new w _, Nat.le_refl _, hn, hs, ?_⟩⟩
  rw [List.take_of_length_le (by simp [hs])]
theorem rows_apart' {w : World} {base base' : Nat} {e e' : TypeId} {size size' : Nat} {v v' : Value} {n n' : Nat} {xs xs' : List Value} (h : w.ownsRow base e size v n xs) (h' : w.ownsRow base' e' size' v' n' xs') (hne : e ≠ e') {g : Nat} (hg : v.ownBlock = some g) : v'.ownBlock ≠ some g := by
  rcases h.2 with ⟨rfl, _⟩ | ⟨g1, cap1, cur1, rfl, _, hh1, _⟩
  · simp [Value.ownBlock] at hg
  · simp only [Value.ownBlock, Option.some.injEq] at hg
    subst hg
    exact ownsRow_ne h' hh1 hne
/-- The worlds of the walk: what was there stays, and the statement's own block. -/
structure BX (C : Array Value) (w W : World) : Prop where
  kp : Keeps (fun _ => False) w W
  blk : W.heap[w.heap.size]? = some (.cells C 26 (0, 0))
theorem BX.step {C : Array Value} {w W W' : World} (h : BX C w W) (hk : Keeps (fun _ => False) W W') : BX C w W' := ⟨h.kp.none_trans hk, box_old h.blk hk (by simp)⟩
theorem BX.start {C : Array Value} {w W : World} (hk : Keeps (fun _ => False) (w.alloc (.cells C 26)) W) : BX C w W := ⟨(Keeps.alloc _ _).none_trans hk, box_new hk (by simp)⟩
/-- .. and a row of numbers. -/
structure RL (K : Array Value) (w W : World) (lv : Value) (N : List Int) : Prop where
  bx : BX K w W
  row : W.ownsRow 0 2 1 lv N.length (N.flatMap i64c)
  nw : ∀ g, lv.ownBlock = some g → w.heap.size < g
theorem RL.keep {K : Array Value} {w W W' : World} {lv : Value} {N : List Int} (h : RL K w W lv N) (hk : Keeps (fun _ => False) W W') : RL K w W' lv N := ⟨h.bx.step hk, hk.row h.row (by simp), h.nw⟩
theorem RL.app {K : Array Value} {w W w4 : World} {lv v4 : Value} {N M : List Int} {xs : List Value} {n : Nat} (h : RL K w W lv N) (hn : n = N.length + M.length) (hx : xs = N.flatMap i64c ++ M.flatMap i64c) (ho : w4.ownsRow 0 2 1 v4 n xs) (hk' : Keeps (fun k => lv.ownBlock = some k) W w4)
    (hf : v4.ownBlock = lv.ownBlock ∨ ∃ g, v4.ownBlock = some g ∧ W.heap.size + 1 ≤ g) : RL K w w4 v4 (N ++ M) := by
  subst hn hx
  have hs := lt_of_block h.bx.blk
  refine ⟨⟨h.bx.kp.trans (hk'.mono fun k _ hk => .inr (Nat.le_of_lt (h.nw k hk))), box_old h.bx.blk hk' (ownsRow_ne h.row h.bx.blk (by decide))⟩, by simpa [List.flatMap_append] using ho, fun g hg => ?_⟩
  rcases hf with e | ⟨g', h1, h2⟩
  · exact h.nw g (by rw [← e]; exact hg)
  · rw [h1] at hg; simp only [Option.some.injEq] at hg; omega
/-- .. and the bytes that are made of it. -/
structure RO (w W : World) (lv : Value) (N : List Int) (va : Value) (C : List Int) : Prop where
  fr : Fr w W va C
  row : W.ownsRow 0 2 1 lv N.length (N.flatMap i64c)
theorem RO.keep {w W W' : World} {lv va : Value} {N C : List Int} (h : RO w W lv N va C) (hk : Keeps (fun _ => False) W W') : RO w W' lv N va C := ⟨h.fr.keep hk, hk.row h.row (by simp)⟩
theorem RO.app {w W w4 : World} {lv va v4 : Value} {N C M : List Int} {xs : List Value} {n : Nat} (h : RO w W lv N va C) (hn : n = C.length + M.length) (hx : xs = C.flatMap u8c ++ M.flatMap u8c) (ho : w4.ownsRow 0 5 1 v4 n xs) (hk : Keeps (fun k => va.ownBlock = some k) W w4)
    (hf : v4.ownBlock = va.ownBlock ∨ ∃ g, v4.ownBlock = some g ∧ W.heap.size ≤ g) : RO w w4 lv N v4 (C ++ M) := by
  subst hn hx
  refine ⟨h.fr.grow ⟨by simpa [List.flatMap_append] using ho, hk, hf⟩, hk.row h.row fun g hg e => ?_⟩
  exact rows_apart' h.row h.fr.row (by decide) hg e
theorem nums3 (L : List Ln) : (L.flatMap Ln.nums).length = 3 * L.length := by
  induction L with
  | nil => rfl
  | cons a l ih => rw [List.flatMap_cons, List.length_append, ih]; simp [Ln.nums]; omega
set_option maxRecDepth 100000 in
set_option maxHeartbeats 1600000 in
theorem rpagePack_wrong (s : Stm) (ad : Option Addr) (cap : Nat) (w : World) (hr : Reads w 3 (.slice ad s.lines.length cap) s.lines.length (s.lines.flatMap Ln.cells)) (hl : s.lines.length ≤ 1000000) (hw : s.rightB = false) :
    Calls Tryd.prog 13 #[s.val (.slice ad s.lines.length cap)] w (PackPost s w) := by
  have hright := rpageRight_any s ad cap (w.alloc (.cells #[.int .i64 s.cycle, .int .i64 s.fr, .int .i64 s.te, .int .i64 s.due, .slice ad s.lines.length cap, .int .i64 s.total, .int .i64 s.credit, .int .i64 s.min, .bool s.grace] 26)) (hr.alloc _) hl
  have hp : PackPost s w = fun e w' => ∃ v, e = .returned (.tuple #[v, .int .i64 4]) ∧ Fr w w' v [] := by unfold PackPost packErr packB; rw [hw]; rfl
  rw [hp]
  rw [hw] at hright
  clear hp
  obtain ⟨cy, fr, to, du, tot, cr, mi, gr, L⟩ := s
  simp only [Stm.val] at hright hr hl ⊢
  have Hr := Lib.hid hr; clear hr; have Hright := Lib.hid hright; clear hright; have Hw := Lib.hid hw; clear hw
  go_enter Tryd.func13, Tryd.ntmps13
  go_wp2_with (go_at_call 16; refine Hright.out.mono ?_; rintro e w1 ⟨rfl, hk⟩; have Hk := Lib.hid hk; clear hk)
  go_ret2
  exact ⟨_, rfl, (Fr.nil w).keep ((Keeps.alloc _ _).none_trans Hk.out)⟩
set_option maxRecDepth 100000 in
set_option maxHeartbeats 3200000 in
theorem rpagePack_ok (s : Stm) (ad : Option Addr) (cap : Nat) (w : World) (hr : Reads w 3 (.slice ad s.lines.length cap) s.lines.length (s.lines.flatMap Ln.cells)) (hl : s.lines.length ≤ 1000000) (hw : s.rightB = true) :
    Calls Tryd.prog 13 #[s.val (.slice ad s.lines.length cap)] w (PackPost s w) := by
  have hright := rpageRight_any s ad cap (w.alloc (.cells #[.int .i64 s.cycle, .int .i64 s.fr, .int .i64 s.te, .int .i64 s.due, .slice ad s.lines.length cap, .int .i64 s.total, .int .i64 s.credit, .int .i64 s.min, .bool s.grace] 26)) (hr.alloc _) hl
  have hp : PackPost s w = fun e w' => ∃ v, e = .returned (.tuple #[v, .int .i64 0]) ∧ Fr w w' v (packN s.nums) := by unfold PackPost packErr packB; rw [hw]; rfl
  rw [hp]
  rw [hw] at hright
  clear hp
  have hl8 := (Stm.right_of hw).len.2
  obtain ⟨i0, hi, hi0, hi1, hi2⟩ := info_parts info_tInt64
  obtain ⟨j0, bj, bj0, bj1, bj2⟩ := info_parts info_tByte
  obtain ⟨cy, fr, to, du, tot, cr, mi, gr, L⟩ := s
  simp only [Stm.val] at hright hr hl hl8 ⊢
  clear hl
  have Hr := Lib.hid hr; clear hr; have Hright := Lib.hid hright; clear hright; have Hw := Lib.hid hw; clear hw
  rcases gr with _ | _
  ·
    go_enter Tryd.func13, Tryd.ntmps13
    go_wp2_with fail
    refine Hright.out.mono ?_
    rintro e w1 ⟨rfl, hk1⟩
    have hb := BX.start hk1
    have b0 := cell_of_cells hb.blk 0
    have b1 := cell_of_cells hb.blk 1
    have b2 := cell_of_cells hb.blk 2
    have b3 := cell_of_cells hb.blk 3
    have b4 := cell_of_cells hb.blk 4
    have b5 := cell_of_cells hb.blk 5
    have b6 := cell_of_cells hb.blk 6
    have b7 := cell_of_cells hb.blk 7
    have b8 := cell_of_cells hb.blk 8
    have hbl := lt_of_block hb.blk
    have hl0 : RL #[.int .i64 cy, .int .i64 fr, .int .i64 to, .int .i64 du, .slice ad L.length cap, .int .i64 tot, .int .i64 cr, .int .i64 mi, .bool false] w (w1.alloc (.cells #[.int .i64 cy, .int .i64 fr, .int .i64 to, .int .i64 du, .int .i64 tot, .int .i64 cr, .int .i64 mi, .int .i64 0, .int .i64 (L.length : Int)] 2)) (.slice (some ⟨w1.heap.size, 0, none⟩) 9 9) [cy, fr, to, du, tot, cr, mi, 0, (L.length : Int)] :=
      ⟨hb.step (Keeps.alloc _ _), owns_lit w1 _ _ 1 9 _ rfl rfl (by unfold maxLen; omega), fun g hg => by simp only [Value.ownBlock, Option.some.injEq] at hg; omega⟩
    have Hl0 := Lib.hid hl0; clear hl0
    clear hk1 hb
    go_wp2
    go_loopw [5, 6] (fun a c wr => ∃ (j : Nat) (va : Value), j ≤ L.length ∧ c = .int .i64 (j : Nat) ∧ a = va ∧ RL #[.int .i64 cy, .int .i64 fr, .int .i64 to, .int .i64 du, .slice ad L.length cap, .int .i64 tot, .int .i64 cr, .int .i64 mi, .bool false] w wr va ([cy, fr, to, du, tot, cr, mi, 0, (L.length : Int)] ++ (L.take j).flatMap Ln.nums)) (fun _ c _ => L.length - (intOf c).toNat)
    case atStart => exact ⟨0, _, Nat.zero_le _, rfl, rfl, Hl0.out⟩
    case round =>
      obtain ⟨j, va, hj, rfl, rfl, hrl⟩ := hrel
      have r4 : wr.cell? ⟨w.heap.size, 4, none⟩ = some (.slice ad L.length cap) := cell_of_cells hrl.bx.blk 4
      have rl := lt_of_block hrl.bx.blk
      have hsh := ownsRow_shape hrl.row
      have hN : ([cy, fr, to, du, tot, cr, mi, 0, (L.length : Int)] ++ (L.take j).flatMap Ln.nums).length = 9 + 3 * j := by
        rw [List.length_append, nums3, List.length_take]; simp; omega
      rw [hN] at hsh
      obtain ⟨adv, capv, rfl, _, _⟩ := hsh
      by_cases hjl : j < L.length
      · obtain ⟨⟨xb, xi, xr⟩, hx⟩ := get_some hjl
        obtain ⟨g, o, c, he, hc⟩ := Hr.out.elem Ln.cells_length hx (by decide)
        simp only [Value.slice.injEq, true_and] at he
        obtain ⟨rfl, rfl⟩ := he
        have z0 : w.cell? ⟨g, o + j * 3, none⟩ = some (.int .i64 xb) := hc 0 (by decide)
        have z1 : w.cell? ⟨g, o + j * 3 + 1, none⟩ = some (.int .i64 xi) := hc 1 (by decide)
        have z2 : w.cell? ⟨g, o + j * 3 + 2, none⟩ = some (.int .i64 xr) := hc 2 (by decide)
        have hgl := cell_lt z0
        have hz : ∀ W, Keeps (fun _ => False) w W → W.cell? ⟨g, o + j * 3, none⟩ = some (.int .i64 xb) ∧ W.cell? ⟨g, o + j * 3 + 1, none⟩ = some (.int .i64 xi) ∧ W.cell? ⟨g, o + j * 3 + 2, none⟩ = some (.int .i64 xr) := fun W hW =>
          ⟨(hW.cell (p := ⟨g, o + j * 3, none⟩) hgl (by simp)).trans z0, (hW.cell (p := ⟨g, o + j * 3 + 1, none⟩) hgl (by simp)).trans z1, (hW.cell (p := ⟨g, o + j * 3 + 2, none⟩) hgl (by simp)).trans z2⟩
        obtain ⟨x0, x1, x2⟩ := hz wr hrl.bx.kp
        clear z0 z1 z2
        obtain ⟨N, hNe⟩ : ∃ N, [cy, fr, to, du, tot, cr, mi, 0, (L.length : Int)] ++ (L.take j).flatMap Ln.nums = N := ⟨_, rfl⟩
        have hnx : [cy, fr, to, du, tot, cr, mi, 0, (L.length : Int)] ++ (L.take (j + 1)).flatMap Ln.nums = N ++ [xb, xi, xr] := by rw [lines_nums_snoc hx, ← List.append_assoc, hNe]
        rw [hNe] at hrl hN
        have hrd := hrl.keep (Keeps.drew _)
        have hrow := hrd.row
        rw [hN] at hrow
        clear hc hgl
        have Hx := Lib.hid hx; clear hx; have Hrl := Lib.hid hrl; clear hrl; have Hnx := Lib.hid hnx; clear hnx; have HN := Lib.hid hN; clear hN; have Hrd := Lib.hid hrd; clear hrd; have Hrow := Lib.hid hrow; clear hrow; have Hz := Lib.hid hz; clear hz
        go_wp2
        go_region_held3 (fun w' => w'.cell? ⟨w.heap.size, 4, none⟩ = some (.slice (some ⟨g, o, none⟩) L.length cap) ∧ w'.cell? ⟨g, o + j * 3, none⟩ = some (.int .i64 xb) ∧ w'.cell? ⟨g, o + j * 3 + 1, none⟩ = some (.int .i64 xi) ∧ w'.cell? ⟨g, o + j * 3 + 2, none⟩ = some (.int .i64 xr)) (first | go_keep) (first
          | (refine step_append_row rfl (.tmp 42) (.tmp 61) 62 rfl 0 2 i0 _ 1 8 Tryd.underlying62 hi hi0 hi1 hi2 rfl (by decide) (.slice adv (9 + 3 * j) capv) (9 + 3 * j) _ rfl (Hrow.out.alloc _) _ 3 _ rfl (Reads.litAt _ _ _ _ _ _ (by simp) rfl) (by simp [Value.oneCell']) (by unfold maxLen; omega) (by omega) (by omega) ?_; intro v4 w4 ho4 hk4 hf4; have hs4 := Hrl.out.app (M := [xb, xi, xr]) (by rw [HN.out]; rfl) rfl ho4 (by first | exact ((Keeps.alloc wr _).trans (Keeps.drew _)).trans (hk4.mono fun _ _ h => .inl h) | exact ((Keeps.drew wr).trans (Keeps.alloc _ _)).trans (hk4.mono fun _ _ h => .inl h)) (by first | exact hf4 | simpa using hf4); obtain ⟨x0, x1, x2⟩ := Hz.out w4 hs4.bx.kp; have r4 : w4.cell? ⟨w.heap.size, 4, none⟩ = some (.slice (some ⟨g, o, none⟩) L.length cap) := cell_of_cells hs4.bx.blk 4; have rl := lt_of_block hs4.bx.blk; have Hs4 := Lib.hid hs4; clear hs4 ho4 hk4 hf4))
        go_wp2
        go_roundw
        case rel => exact ⟨j + 1, _, by omega, by go_num, rfl, by rw [Hnx.out]; exact Hs4.out⟩
        case measure => simp [intOf]; omega
      · obtain rfl : j = L.length := by omega
        rw [List.take_length] at hrl hN
        obtain ⟨N, hNe⟩ : ∃ N, [cy, fr, to, du, tot, cr, mi, 0, (L.length : Int)] ++ L.flatMap Ln.nums = N := ⟨_, rfl⟩
        rw [hNe] at hrl hN
        have hNl : N.length ≤ 33 := by omega
        obtain ⟨wo, rfl⟩ : ∃ wo : World, wo = wr := ⟨_, rfl⟩
        have hro : RO w wo (.slice adv (9 + 3 * L.length) capv) N (.slice none 0 0) [] := ⟨⟨World.ownsRow_nil _ _ _ _, hrl.bx.kp, by simp [Value.ownBlock]⟩, hrl.row⟩
        have Hrl := Lib.hid hrl; clear hrl; have HN := Lib.hid hN; clear hN; have Hro := Lib.hid hro; clear hro; have HNe := Lib.hid hNe; clear hNe
        go_wp2
        go_loopw [7, 8] (fun a c wr => ∃ (i : Nat) (vb : Value), i ≤ N.length ∧ c = .int .i64 (i : Nat) ∧ a = vb ∧ RO w wr (.slice adv (9 + 3 * L.length) capv) N vb (packN (N.take i))) (fun _ c _ => N.length - (intOf c).toNat)
        case atStart => exact ⟨0, _, Nat.zero_le _, rfl, rfl, Hro.out⟩
        case round =>
          obtain ⟨i, vb, hi', rfl, rfl, hro⟩ := hrel
          have hiN : i ≤ 9 + 3 * L.length := by rw [← HN.out]; exact hi'
          by_cases hil : i < 9 + 3 * L.length
          · obtain ⟨x, hx⟩ := get_some (L := N) (k := i) (by rw [HN.out]; exact hil)
            have hrw := hro.row
            have hN' := HN.out
            rw [hN'] at hrw
            obtain ⟨gv, ov, rfl, x0⟩ := (Reads.of_owns hrw).int hx
            obtain ⟨C, hC⟩ : ∃ C, packN (N.take i) = C := ⟨_, rfl⟩
            have hnx : packN (N.take (i + 1)) = C ++ eight x := by rw [take_snoc' hx, packN_append, hC]; simp [packN]
            have hCl : C.length ≤ 264 := by rw [← hC, packN_length, List.length_take]; omega
            rw [hC] at hro
            have hrow := hro.fr.row
            obtain ⟨adb, capb, rfl, _, _⟩ := ownsRow_shape hrow
            clear hN'
            have Hx := Lib.hid hx; clear hx; have Hro := Lib.hid hro; clear hro; have Hnx := Lib.hid hnx; clear hnx; have HC := Lib.hid hC; clear hC; have Hrw := Lib.hid hrw; clear hrw; have Hrow := Lib.hid hrow; clear hrow
            go_wp2_with (first
              | (go_at_call 30; refine (helpEight_any x _).mono ?_; rintro e w5 ⟨v5, rfl, hf5⟩; have Hro5 := Lib.hid (Hro.out.keep hf5.kp); have hrow5 := hf5.row; obtain ⟨ad5, cap5, rfl, _, _⟩ := ownsRow_shape hrow5; have Hrow5 := Lib.hid hrow5; clear hf5 hrow5)
              | (at_builtin; refine wpList_append_row rfl (.tmp 69) (.tmp 74) 31 rfl 0 5 j0 _ 1 1 Tryd.underlying31 bj bj0 bj1 bj2 rfl (by decide) (.slice adb C.length capb) C.length _ rfl Hro5.out.fr.row _ 8 _ rfl (Reads.of_owns Hrow5.out) (u8c_one _) (by unfold maxLen; omega) (by omega) (by omega) ?_))
            intro v6 w6 ho6 hk6 hf6
            have Hro6 := Lib.hid (Hro5.out.app (M := eight x) rfl rfl ho6 hk6 hf6)
            clear ho6 hk6 hf6
            go_wp2
            go_roundw
            case rel => exact ⟨i + 1, _, by rw [HN.out]; omega, by go_num, rfl, by rw [Hnx.out]; exact Hro6.out⟩
            case measure => have := HN.out; simp [intOf]; omega
          · obtain rfl : i = 9 + 3 * L.length := by omega
            rw [List.take_of_length_le (by rw [HN.out]; exact Nat.le_refl _)] at hro
            have Hro := Lib.hid hro; clear hro
            go_wp2
            go_ret2
            exact ⟨_, rfl, by have := Hro.out.fr; rw [← HNe.out] at this; exact this⟩
  ·
    go_enter Tryd.func13, Tryd.ntmps13
    go_wp2_with fail
    refine Hright.out.mono ?_
    rintro e w1 ⟨rfl, hk1⟩
    have hb := BX.start hk1
    have b0 := cell_of_cells hb.blk 0
    have b1 := cell_of_cells hb.blk 1
    have b2 := cell_of_cells hb.blk 2
    have b3 := cell_of_cells hb.blk 3
    have b4 := cell_of_cells hb.blk 4
    have b5 := cell_of_cells hb.blk 5
    have b6 := cell_of_cells hb.blk 6
    have b7 := cell_of_cells hb.blk 7
    have b8 := cell_of_cells hb.blk 8
    have hbl := lt_of_block hb.blk
    have hl0 : RL #[.int .i64 cy, .int .i64 fr, .int .i64 to, .int .i64 du, .slice ad L.length cap, .int .i64 tot, .int .i64 cr, .int .i64 mi, .bool true] w (w1.alloc (.cells #[.int .i64 cy, .int .i64 fr, .int .i64 to, .int .i64 du, .int .i64 tot, .int .i64 cr, .int .i64 mi, .int .i64 1, .int .i64 (L.length : Int)] 2)) (.slice (some ⟨w1.heap.size, 0, none⟩) 9 9) [cy, fr, to, du, tot, cr, mi, 1, (L.length : Int)] :=
      ⟨hb.step (Keeps.alloc _ _), owns_lit w1 _ _ 1 9 _ rfl rfl (by unfold maxLen; omega), fun g hg => by simp only [Value.ownBlock, Option.some.injEq] at hg; omega⟩
    have Hl0 := Lib.hid hl0; clear hl0
    clear hk1 hb
    go_wp2
    go_loopw [5, 6] (fun a c wr => ∃ (j : Nat) (va : Value), j ≤ L.length ∧ c = .int .i64 (j : Nat) ∧ a = va ∧ RL #[.int .i64 cy, .int .i64 fr, .int .i64 to, .int .i64 du, .slice ad L.length cap, .int .i64 tot, .int .i64 cr, .int .i64 mi, .bool true] w wr va ([cy, fr, to, du, tot, cr, mi, 1, (L.length : Int)] ++ (L.take j).flatMap Ln.nums)) (fun _ c _ => L.length - (intOf c).toNat)
    case atStart => exact ⟨0, _, Nat.zero_le _, rfl, rfl, Hl0.out⟩
    case round =>
      obtain ⟨j, va, hj, rfl, rfl, hrl⟩ := hrel
      have r4 : wr.cell? ⟨w.heap.size, 4, none⟩ = some (.slice ad L.length cap) := cell_of_cells hrl.bx.blk 4
      have rl := lt_of_block hrl.bx.blk
      have hsh := ownsRow_shape hrl.row
      have hN : ([cy, fr, to, du, tot, cr, mi, 1, (L.length : Int)] ++ (L.take j).flatMap Ln.nums).length = 9 + 3 * j := by
        rw [List.length_append, nums3, List.length_take]; simp; omega
      rw [hN] at hsh
      obtain ⟨adv, capv, rfl, _, _⟩ := hsh
      by_cases hjl : j < L.length
      · obtain ⟨⟨xb, xi, xr⟩, hx⟩ := get_some hjl
        obtain ⟨g, o, c, he, hc⟩ := Hr.out.elem Ln.cells_length hx (by decide)
        simp only [Value.slice.injEq, true_and] at he
        obtain ⟨rfl, rfl⟩ := he
        have z0 : w.cell? ⟨g, o + j * 3, none⟩ = some (.int .i64 xb) := hc 0 (by decide)
        have z1 : w.cell? ⟨g, o + j * 3 + 1, none⟩ = some (.int .i64 xi) := hc 1 (by decide)
        have z2 : w.cell? ⟨g, o + j * 3 + 2, none⟩ = some (.int .i64 xr) := hc 2 (by decide)
        have hgl := cell_lt z0
        have hz : ∀ W, Keeps (fun _ => False) w W → W.cell? ⟨g, o + j * 3, none⟩ = some (.int .i64 xb) ∧ W.cell? ⟨g, o + j * 3 + 1, none⟩ = some (.int .i64 xi) ∧ W.cell? ⟨g, o + j * 3 + 2, none⟩ = some (.int .i64 xr) := fun W hW =>
          ⟨(hW.cell (p := ⟨g, o + j * 3, none⟩) hgl (by simp)).trans z0, (hW.cell (p := ⟨g, o + j * 3 + 1, none⟩) hgl (by simp)).trans z1, (hW.cell (p := ⟨g, o + j * 3 + 2, none⟩) hgl (by simp)).trans z2⟩
        obtain ⟨x0, x1, x2⟩ := hz wr hrl.bx.kp
        clear z0 z1 z2
        obtain ⟨N, hNe⟩ : ∃ N, [cy, fr, to, du, tot, cr, mi, 1, (L.length : Int)] ++ (L.take j).flatMap Ln.nums = N := ⟨_, rfl⟩
        have hnx : [cy, fr, to, du, tot, cr, mi, 1, (L.length : Int)] ++ (L.take (j + 1)).flatMap Ln.nums = N ++ [xb, xi, xr] := by rw [lines_nums_snoc hx, ← List.append_assoc, hNe]
        rw [hNe] at hrl hN
        have hrd := hrl.keep (Keeps.drew _)
        have hrow := hrd.row
        rw [hN] at hrow
        clear hc hgl
        have Hx := Lib.hid hx; clear hx; have Hrl := Lib.hid hrl; clear hrl; have Hnx := Lib.hid hnx; clear hnx; have HN := Lib.hid hN; clear hN; have Hrd := Lib.hid hrd; clear hrd; have Hrow := Lib.hid hrow; clear hrow; have Hz := Lib.hid hz; clear hz
        go_wp2
        go_region_held3 (fun w' => w'.cell? ⟨w.heap.size, 4, none⟩ = some (.slice (some ⟨g, o, none⟩) L.length cap) ∧ w'.cell? ⟨g, o + j * 3, none⟩ = some (.int .i64 xb) ∧ w'.cell? ⟨g, o + j * 3 + 1, none⟩ = some (.int .i64 xi) ∧ w'.cell? ⟨g, o + j * 3 + 2, none⟩ = some (.int .i64 xr)) (first | go_keep) (first
          | (refine step_append_row rfl (.tmp 42) (.tmp 61) 62 rfl 0 2 i0 _ 1 8 Tryd.underlying62 hi hi0 hi1 hi2 rfl (by decide) (.slice adv (9 + 3 * j) capv) (9 + 3 * j) _ rfl (Hrow.out.alloc _) _ 3 _ rfl (Reads.litAt _ _ _ _ _ _ (by simp) rfl) (by simp [Value.oneCell']) (by unfold maxLen; omega) (by omega) (by omega) ?_; intro v4 w4 ho4 hk4 hf4; have hs4 := Hrl.out.app (M := [xb, xi, xr]) (by rw [HN.out]; rfl) rfl ho4 (by first | exact ((Keeps.alloc wr _).trans (Keeps.drew _)).trans (hk4.mono fun _ _ h => .inl h) | exact ((Keeps.drew wr).trans (Keeps.alloc _ _)).trans (hk4.mono fun _ _ h => .inl h)) (by first | exact hf4 | simpa using hf4); obtain ⟨x0, x1, x2⟩ := Hz.out w4 hs4.bx.kp; have r4 : w4.cell? ⟨w.heap.size, 4, none⟩ = some (.slice (some ⟨g, o, none⟩) L.length cap) := cell_of_cells hs4.bx.blk 4; have rl := lt_of_block hs4.bx.blk; have Hs4 := Lib.hid hs4; clear hs4 ho4 hk4 hf4))
        go_wp2
        go_roundw
        case rel => exact ⟨j + 1, _, by omega, by go_num, rfl, by rw [Hnx.out]; exact Hs4.out⟩
        case measure => simp [intOf]; omega
      · obtain rfl : j = L.length := by omega
        rw [List.take_length] at hrl hN
        obtain ⟨N, hNe⟩ : ∃ N, [cy, fr, to, du, tot, cr, mi, 1, (L.length : Int)] ++ L.flatMap Ln.nums = N := ⟨_, rfl⟩
        rw [hNe] at hrl hN
        have hNl : N.length ≤ 33 := by omega
        obtain ⟨wo, rfl⟩ : ∃ wo : World, wo = wr := ⟨_, rfl⟩
        have hro : RO w wo (.slice adv (9 + 3 * L.length) capv) N (.slice none 0 0) [] := ⟨⟨World.ownsRow_nil _ _ _ _, hrl.bx.kp, by simp [Value.ownBlock]⟩, hrl.row⟩
        have Hrl := Lib.hid hrl; clear hrl; have HN := Lib.hid hN; clear hN; have Hro := Lib.hid hro; clear hro; have HNe := Lib.hid hNe; clear hNe
        go_wp2
        go_loopw [7, 8] (fun a c wr => ∃ (i : Nat) (vb : Value), i ≤ N.length ∧ c = .int .i64 (i : Nat) ∧ a = vb ∧ RO w wr (.slice adv (9 + 3 * L.length) capv) N vb (packN (N.take i))) (fun _ c _ => N.length - (intOf c).toNat)
        case atStart => exact ⟨0, _, Nat.zero_le _, rfl, rfl, Hro.out⟩
        case round =>
          obtain ⟨i, vb, hi', rfl, rfl, hro⟩ := hrel
          have hiN : i ≤ 9 + 3 * L.length := by rw [← HN.out]; exact hi'
          by_cases hil : i < 9 + 3 * L.length
          · obtain ⟨x, hx⟩ := get_some (L := N) (k := i) (by rw [HN.out]; exact hil)
            have hrw := hro.row
            have hN' := HN.out
            rw [hN'] at hrw
            obtain ⟨gv, ov, rfl, x0⟩ := (Reads.of_owns hrw).int hx
            obtain ⟨C, hC⟩ : ∃ C, packN (N.take i) = C := ⟨_, rfl⟩
            have hnx : packN (N.take (i + 1)) = C ++ eight x := by rw [take_snoc' hx, packN_append, hC]; simp [packN]
            have hCl : C.length ≤ 264 := by rw [← hC, packN_length, List.length_take]; omega
            rw [hC] at hro
            have hrow := hro.fr.row
            obtain ⟨adb, capb, rfl, _, _⟩ := ownsRow_shape hrow
            clear hN'
            have Hx := Lib.hid hx; clear hx; have Hro := Lib.hid hro; clear hro; have Hnx := Lib.hid hnx; clear hnx; have HC := Lib.hid hC; clear hC; have Hrw := Lib.hid hrw; clear hrw; have Hrow := Lib.hid hrow; clear hrow
            go_wp2_with (first
              | (go_at_call 30; refine (helpEight_any x _).mono ?_; rintro e w5 ⟨v5, rfl, hf5⟩; have Hro5 := Lib.hid (Hro.out.keep hf5.kp); have hrow5 := hf5.row; obtain ⟨ad5, cap5, rfl, _, _⟩ := ownsRow_shape hrow5; have Hrow5 := Lib.hid hrow5; clear hf5 hrow5)
              | (at_builtin; refine wpList_append_row rfl (.tmp 69) (.tmp 74) 31 rfl 0 5 j0 _ 1 1 Tryd.underlying31 bj bj0 bj1 bj2 rfl (by decide) (.slice adb C.length capb) C.length _ rfl Hro5.out.fr.row _ 8 _ rfl (Reads.of_owns Hrow5.out) (u8c_one _) (by unfold maxLen; omega) (by omega) (by omega) ?_))
            intro v6 w6 ho6 hk6 hf6
            have Hro6 := Lib.hid (Hro5.out.app (M := eight x) rfl rfl ho6 hk6 hf6)
            clear ho6 hk6 hf6
            go_wp2
            go_roundw
            case rel => exact ⟨i + 1, _, by rw [HN.out]; omega, by go_num, rfl, by rw [Hnx.out]; exact Hro6.out⟩
            case measure => have := HN.out; simp [intOf]; omega
          · obtain rfl : i = 9 + 3 * L.length := by omega
            rw [List.take_of_length_le (by rw [HN.out]; exact Nat.le_refl _)] at hro
            have Hro := Lib.hid hro; clear hro
            go_wp2
            go_ret2
            exact ⟨_, rfl, by have := Hro.out.fr; rw [← HNe.out] at this; exact this⟩
theorem rpagePack_any (s : Stm) (ad : Option Addr) (cap : Nat) (w : World) (hr : Reads w 3 (.slice ad s.lines.length cap) s.lines.length (s.lines.flatMap Ln.cells)) (hl : s.lines.length ≤ 1000000) :
    Calls Tryd.prog 13 #[s.val (.slice ad s.lines.length cap)] w (PackPost s w) := by
  rcases hw : s.rightB with _ | _
  · exact rpagePack_wrong s ad cap w hr hl hw
  · exact rpagePack_ok s ad cap w hr hl hw
end Go.Proofs.YthokcmbgamanbaaDoor
