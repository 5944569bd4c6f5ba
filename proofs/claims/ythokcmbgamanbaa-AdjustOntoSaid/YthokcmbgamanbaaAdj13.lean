/- AdjustOnto, walked. -/
import Derived.Test.YthokcmbgamanbaaAdj13b
namespace Go.Proofs.Ythokcmbgamanbaa
open Go.RowKit
/-- The first loop: the statements of the first i steps. -/
def OntoL (w wr : World) (N n : Nat) (S : List SI) (ads : Option Addr) (caps : Nat) (v p : Value) : Prop :=
  ∃ (i : Nat) (L : List SV) (B6 : Nat) (adv : Option Addr) (cv : Nat), v = .slice adv L.length cv ∧ p = (.pointer (some ⟨B6, 0, none⟩)) ∧ wr.heap[B6]? = some (.cells #[.int .i64 (i : Nat)] 3 (0, 0)) ∧ w.heap.size < B6 ∧ Pages w wr (.slice adv L.length cv) L ∧ L.length = i ∧
    (∀ (j : Nat) (x : SV) (si : SI), L[j]? = some x → S[j]? = some si → x.s = pageOf N j si.L) ∧ wr.heap[w.heap.size]? = some (.cells #[.slice ads n caps] 56 (0, 0)) ∧ i ≤ n
set_option maxRecDepth 100000 in
set_option maxHeartbeats 3200000 in
theorem adjOnto_walk (w : World) (ads : Option Addr) (caps : Nat) (S : List SI) (hr : Reads w 1 (.slice ads S.length caps) S.length (S.flatMap SI.cells)) (hS : SIs w S) (hlS : S.length ≤ maxLen) (lines : Int) (hlines : (Lit.int .i64 lines).wf = true) :
    Calls Try.prog 7 #[.slice ads S.length caps, .int .i64 lines] w fun e w' => e = .returned (.bool true) ∧ Below w.heap.size w w' := by
  obtain ⟨i0, hi, hi0, hi1, hi2⟩ := info_parts info_tLine
  obtain ⟨j0, hj, hj0, hj1, hj2⟩ := info_parts info_tStm
  have Hi := Lib.hid hi; clear hi; have Hi0 := Lib.hid hi0; clear hi0; have Hi1 := Lib.hid hi1; clear hi1; have Hi2 := Lib.hid hi2; clear hi2; have Hj := Lib.hid hj; clear hj; have Hj0 := Lib.hid hj0; clear hj0; have Hj1 := Lib.hid hj1; clear hj1; have Hj2 := Lib.hid hj2; clear hj2
  obtain ⟨z, hz⟩ : ∃ z, (IntKind.u64.wrap lines).tmod 4 = z := ⟨_, rfl⟩
  have hz1 : 0 ≤ z ∧ z ≤ 3 := by
    have := IntKind.wrap_u64 lines
    rw [← hz, this]
    have h0 : (0 : Int) ≤ lines % 18446744073709551616 := Int.emod_nonneg _ (by omega)
    rw [Int.tmod_eq_emod_of_nonneg h0]; constructor <;> omega
  obtain ⟨z0, z1⟩ := hz1
  have e1 : IntKind.i64.wrap z = z := IntWalk.i64_in _ ⟨by omega, by omega⟩
  have e2 : IntKind.i64.wrap (1 + z) = 1 + z := IntWalk.i64_in _ ⟨by omega, by omega⟩
  obtain ⟨N, hN⟩ : ∃ N : Nat, 1 + z = (N : Int) := ⟨(1 + z).toNat, by omega⟩
  obtain ⟨n, hn⟩ : ∃ n, S.length = n := ⟨_, rfl⟩
  rw [hn] at hr hlS ⊢
  clear hlines
  unfold maxLen at hlS
  by_cases n0 : n = 0
  · subst n0
    have Hr := Lib.hid hr; clear hr; have HS := Lib.hid hS; clear hS; have Hn := Lib.hid hn; clear hn
    go_enter Try.func7, Try.ntmps7
    go_wp2_with (go_at_call 25; ((with_reducible refine (awake21_any _).mono ?_); rintro e w1 ⟨rfl, hk1⟩; have Hk1 := Lib.hid hk1; clear hk1))
    go_ret
    exact ⟨rfl, (Keeps.nt (by (repeat (first | exact Keeps.refl _ _ | exact Keeps.alloc _ _ | exact Keeps.drew _ | exact Keeps.drewN _ _ | refine Keeps.trans_drew ?_ | refine Keeps.trans_drewN ?_ | refine Keeps.trans_alloc ?_))) Hk1.out).below (fun _ _ h => h) (Nat.le_refl _)⟩
  by_cases n1 : 10 < n
  · have n1' : (10 : Int) < (n : Int) := by omega
    have n2' : ((n : Int) == 0) = false := beq_eq_false_iff_ne.2 (by omega)
    have Hr := Lib.hid hr; clear hr; have HS := Lib.hid hS; clear hS; have Hn := Lib.hid hn; clear hn
    go_enter Try.func7, Try.ntmps7
    go_wp2_with (go_at_call 25; ((with_reducible refine (awake21_any _).mono ?_); rintro e w1 ⟨rfl, hk1⟩; have Hk1 := Lib.hid hk1; clear hk1))
    go_ret
    exact ⟨rfl, (Keeps.nt (by (repeat (first | exact Keeps.refl _ _ | exact Keeps.alloc _ _ | exact Keeps.drew _ | exact Keeps.drewN _ _ | refine Keeps.trans_drew ?_ | refine Keeps.trans_drewN ?_ | refine Keeps.trans_alloc ?_))) Hk1.out).below (fun _ _ h => h) (Nat.le_refl _)⟩
  have n1' : (n : Int) ≤ 10 := by omega
  have n2' : ((n : Int) == 0) = false := beq_eq_false_iff_ne.2 (by omega)
  have Hr := Lib.hid hr; clear hr; have HS := Lib.hid hS; clear hS; have Hn := Lib.hid hn; clear hn
  go_enter Try.func7, Try.ntmps7
  go_wp2_with fail
  go_loopw [5, 6] (fun v p wr => OntoL w wr N n S ads caps v p) (fun v _ _ => match v with | .slice _ l _ => n - l | _ => 0)
  case atStart =>
    exact ⟨0, [], w.heap.size + 1, none, 0, rfl, rfl, by have := heap_alloc_at (w.alloc (.cells #[.slice ads n caps] 56)) (.cells #[.int .i64 0] 3) (i := w.heap.size + 1) (by simp); simpa using this, by omega, ⟨World.ownsRow_nil _ _ _ _, by simp, (by (repeat (first | exact Keeps.refl _ _ | exact Keeps.alloc _ _ | exact Keeps.drew _ | exact Keeps.drewN _ _ | refine Keeps.trans_drew ?_ | refine Keeps.trans_drewN ?_ | refine Keeps.trans_alloc ?_))), by simp [Value.ownBlock]⟩, rfl, by simp, by (repeat (first | exact heap_alloc_at _ _ (by simp; done) | refine box_alloc ?_ _)), by omega⟩
  case round =>
    obtain ⟨W1, hW1⟩ : ∃ x, x = wr := ⟨_, rfl⟩
    subst hW1
    obtain ⟨i, L, B6, adv, cv, rfl, rfl, hb6, h6, hpg, hli, hspec, hst, hin⟩ := hrel
    obtain ⟨q, hq⟩ : ∃ q, L.length = q := ⟨_, rfl⟩
    rw [hq] at hpg hli ⊢
    have c6 : W1.cell? ⟨B6, 0, none⟩ = some (.int .i64 (i : Nat)) := cell_of_cells hb6 0
    have c2 : W1.cell? ⟨w.heap.size, 0, none⟩ = some (.slice ads n caps) := cell_of_cells hst 0
    have l6 := lt_of_block hb6
    have l2 := lt_of_block hst
    by_cases hlt : i < n
    · have hltI : (i : Int) < (n : Int) := by omega
      have Hb6 := Lib.hid hb6; clear hb6; have Hpg := Lib.hid hpg; clear hpg; have Hspec := Lib.hid hspec; clear hspec; have Hst := Lib.hid hst; clear hst; have Hq := Lib.hid hq; clear hq; have Hli := Lib.hid hli; clear hli
      obtain ⟨x, hx⟩ := get_some (L := S) (k := i) (by rw [Hn.out]; exact hlt)
      obtain ⟨gs, os, cs, he, hc⟩ := (Hr.out.keeps Hpg.out.fr.1 (by simp)).elem SI.cells_length hx (by decide)
      simp only [Value.slice.injEq, true_and] at he
      obtain ⟨rfl, rfl⟩ := he
      have cx : W1.cell? ⟨gs, os + i, none⟩ = some x.v := by have := hc 0 (by decide); simpa [SI.cells] using this
      have hsx := HS.out x (List.mem_of_getElem? hx)
      have hrx := hsx.1.keeps Hpg.out.fr.1 (by simp)
      have hlx := hsx.2
      have hat : ∀ W (y : Int) (k : Nat), Keeps (fun _ => False) W1 W → y = (k : Nat) → k ≤ 100 → Calls Try.prog 26 #[.int .i64 y, (.pointer (some ⟨w.heap.size, 0, none⟩)), (.pointer (some ⟨B6, 0, none⟩))] W fun e w' => e = .returned (.int .i64 (atV x.L k)) ∧ W = w' := fun W y k hW hy hk =>
        adjAt_at y k i n gs os caps w.heap.size B6 x W hy ((hW.cell (cell_lt c2) (by simp)).trans c2) ((hW.cell (cell_lt c6) (by simp)).trans c6) ((hW.cell (cell_lt cx) (by simp)).trans cx) (hrx.keeps hW (by simp)) hlx hlt hk (by omega)
      clear hc hsx
      have hin0 : InL W1 (W1.alloc (.cells #[.int .i64 2, .int .i64 1, .int .i64 2, .int .i64 0, .slice none 0 0, .int .i64 0, .int .i64 0, .int .i64 0, .bool ((i : Int) % 3 == 1)] 44)) W1.heap.size ((i : Int) % 3 == 1) x.L 0 (.slice none 0 0) :=
        ⟨heap_alloc_new _ _, World.ownsRow_nil _ _ _ _, Keeps.alloc _ _, by simp [Value.ownBlock], Nat.le_refl _⟩
      have Hx := Lib.hid hx; clear hx; have Hrx := Lib.hid hrx; clear hrx; have Hlx := Lib.hid hlx; clear hlx; have Hat := Lib.hid hat; clear hat; have Hin0 := Lib.hid hin0; clear hin0
      go_wp2_with fail
      go_loopw [9] (fun c wx => ∃ (k : Nat) (ad : Option Addr) (c3 : Nat), k ≤ N ∧ c = .int .i64 (k : Nat) ∧ InL W1 wx W1.heap.size ((i : Int) % 3 == 1) x.L k (.slice ad k c3)) (fun c _ => N - (intOf c).toNat)
      case atStart => exact ⟨0, none, 0, Nat.zero_le _, rfl, Hin0.out⟩
      case round =>
        obtain ⟨k, ad, c3, hkN, rfl, hil⟩ := hrel
        have b4 : World.cell? _ (⟨W1.heap.size, 4, none⟩ : Addr) = some (.slice ad k c3) := cell_of_cells hil.blk 4
        have lB := lt_of_block hil.blk
        by_cases hkl : k < N
        · have hkI : (k : Int) < (N : Int) := by omega
          have hN4 : N ≤ 4 := by omega
          have q0 : IntKind.i64.wrap (2 * (k : Int)) = 2 * (k : Int) := IntWalk.i64_in _ ⟨by omega, by omega⟩
          have q1 : IntKind.i64.wrap (2 * (k : Int) + 1) = 2 * (k : Int) + 1 := IntWalk.i64_in _ ⟨by omega, by omega⟩
          have Hil := Lib.hid hil; clear hil
          go_wp2_with fail
          refine wp_region_mixz (fun w' => w'.cell? ⟨W1.heap.size, 4, none⟩ = some (.slice ad k c3)) 15 (.take 0 (.take 1 (.take 2 (.take 3 (.take 4 (.take 6 (.take 7 (.take 8 (.take 9 (.move 5 (.move 10 (.take 11 (.move 12 (.move 13 (.take 14 (.move 15 .done)))))))))))))))) (by kernel_rfl) (by kernel_rfl) ?_ ?_
          · go_simp
          intro w1 hs1 hk1
          have hil1 := Hil.out.keep hk1
          have Hil1 := Lib.hid hil1; clear hil1
          clear hk1
          repeat (first
            | (refine mix_skip rfl (by rfl) ?_; try simp only [Act.put, List.setIfInBounds_toArray, List.set_cons_zero, List.set_cons_succ])
            | (refine mix_skipm rfl (by rfl) ?_; try simp only [Act.put, List.setIfInBounds_toArray, List.set_cons_zero, List.set_cons_succ])
            | (refine mix_take (v := ?_) rfl (by rfl) ?_ ?_; rotate_left; (· intro w' hSw; (try dsimp only at hSw); go_simp; (try with_reducible rfl)); rotate_right; try simp only [Act.put, List.setIfInBounds_toArray, List.set_cons_zero, List.set_cons_succ]))
          refine mix_move rfl (fun K hK => ?_)
          go_simp
          go_at_call 26
          ((with_reducible refine (Hat.out _ _ (2 * k) Hil1.out.kp (by simp) (by omega)).mono ?_); rintro e w2 ⟨rfl, rfl⟩; dsimp only)
          refine hK.out _ _ (by exact hs1) ?_
          clear hK K
          try simp only [Act.put, List.setIfInBounds_toArray, List.set_cons_zero, List.set_cons_succ]
          repeat (first
            | (refine mix_skip rfl (by rfl) ?_; try simp only [Act.put, List.setIfInBounds_toArray, List.set_cons_zero, List.set_cons_succ])
            | (refine mix_skipm rfl (by rfl) ?_; try simp only [Act.put, List.setIfInBounds_toArray, List.set_cons_zero, List.set_cons_succ])
            | (refine mix_take (v := ?_) rfl (by rfl) ?_ ?_; rotate_left; (· intro w' hSw; (try dsimp only at hSw); go_simp; (try with_reducible rfl)); rotate_right; try simp only [Act.put, List.setIfInBounds_toArray, List.set_cons_zero, List.set_cons_succ]))
          refine mix_move rfl (fun K hK => ?_)
          go_simp
          go_at_call 26
          ((with_reducible refine (Hat.out _ _ (2 * k + 1) Hil1.out.kp (by simp) (by omega)).mono ?_); rintro e w2 ⟨rfl, rfl⟩; dsimp only)
          refine hK.out _ _ (by exact hs1) ?_
          clear hK K
          try simp only [Act.put, List.setIfInBounds_toArray, List.set_cons_zero, List.set_cons_succ]
          repeat (first
            | (refine mix_skip rfl (by rfl) ?_; try simp only [Act.put, List.setIfInBounds_toArray, List.set_cons_zero, List.set_cons_succ])
            | (refine mix_skipm rfl (by rfl) ?_; try simp only [Act.put, List.setIfInBounds_toArray, List.set_cons_zero, List.set_cons_succ])
            | (refine mix_take (v := ?_) rfl (by rfl) ?_ ?_; rotate_left; (· intro w' hSw; (try dsimp only at hSw); go_simp; (try with_reducible rfl)); rotate_right; try simp only [Act.put, List.setIfInBounds_toArray, List.set_cons_zero, List.set_cons_succ]))
          refine mix_move rfl (fun K hK => ?_)
          go_simp
          refine hK.out _ _ (by (rw [Keeps.cell (Keeps.alloc (S := fun _ => False) w1 _) (cell_lt hs1) (by simp)]; exact hs1)) ?_
          clear hK K
          try simp only [Act.put, List.setIfInBounds_toArray, List.set_cons_zero, List.set_cons_succ]
          repeat (first
            | (refine mix_skip rfl (by rfl) ?_; try simp only [Act.put, List.setIfInBounds_toArray, List.set_cons_zero, List.set_cons_succ])
            | (refine mix_skipm rfl (by rfl) ?_; try simp only [Act.put, List.setIfInBounds_toArray, List.set_cons_zero, List.set_cons_succ])
            | (refine mix_take (v := ?_) rfl (by rfl) ?_ ?_; rotate_left; (· intro w' hSw; (try dsimp only at hSw); go_simp; (try with_reducible rfl)); rotate_right; try simp only [Act.put, List.setIfInBounds_toArray, List.set_cons_zero, List.set_cons_succ]))
          refine mix_move rfl (fun K hK => ?_)
          refine step_append_row rfl (.tmp 50) (.tmp 61) 42 rfl 0 62 i0 _ 3 24 Try.underlying42 Hi.out Hi0.out Hi1.out Hi2.out rfl (by decide) (.slice ad k c3) k _ rfl (Hil1.out.row.alloc _) _ 1 _ rfl (Reads.litAt _ _ _ 3 1 _ (by first | rfl | simp) rfl) (by simp [Value.oneCell']) (by unfold maxLen; omega) (by omega) (Nat.zero_le _) ?_
          intro v5 w5 hown hk5 hf5
          have hna : ¬ (Value.slice ad k c3).ownBlock = some W1.heap.size := fun e => by have := Hil1.out.nw _ e; omega
          have hb5 := box_old (Hil1.out.keep (Keeps.alloc _ _)).blk hk5 hna
          have b5 := cell_of_cells hb5 4
          have f5 := free_of_cells hb5 4
          have happ := (Hil1.out.keep (Keeps.alloc _ _)).app rfl (by first | rfl | simp [pageLn, Ln.cells]) hown hk5 hf5
          obtain ⟨ad5, c5, rfl, _, _⟩ := ownsRow_shape hown
          refine hK.out _ _ (by exact b5) ?_
          clear hK K
          try simp only [Act.put, List.setIfInBounds_toArray, List.set_cons_zero, List.set_cons_succ]
          have Happ := Lib.hid happ; clear happ; have Hb5 := Lib.hid hb5; clear hb5
          clear hown hk5 hf5 hna
          have b5' : w5.cell? ⟨W1.heap.size, 4, none⟩ = some (.slice ad k c3) := b5
          clear b5 hs1
          repeat (first
            | (refine mix_skip rfl (by rfl) ?_; try simp only [Act.put, List.setIfInBounds_toArray, List.set_cons_zero, List.set_cons_succ])
            | (refine mix_skipm rfl (by rfl) ?_; try simp only [Act.put, List.setIfInBounds_toArray, List.set_cons_zero, List.set_cons_succ])
            | (refine mix_take (v := ?_) rfl (by rfl) ?_ ?_; rotate_left; (· intro w' hSw; (try dsimp only at hSw); go_simp; (try with_reducible rfl)); rotate_right; try simp only [Act.put, List.setIfInBounds_toArray, List.set_cons_zero, List.set_cons_succ]))
          refine mix_last rfl (fun K hK => ?_)
          go_simp
          refine hK.out _ _ ?_
          clear hK K
          try simp only [Act.put, List.setIfInBounds_toArray, List.set_cons_zero, List.set_cons_succ]
          refine mix_done ?_
          have q2 : IntKind.i64.wrap ((k : Int) + 1) = (k : Int) + 1 := IntWalk.i64_in _ ⟨by omega, by omega⟩
          go_wp2_with fail
          go_roundw
          case rel => exact ⟨k + 1, ad5, c5, by omega, by go_num, Happ.out⟩
          case measure => simp [intOf]; omega
        · obtain rfl : k = N := by omega
          have m0 : World.cell? _ (⟨W1.heap.size, 0, none⟩ : Addr) = some (.int .i64 2) := cell_of_cells hil.blk 0
          have m1 : World.cell? _ (⟨W1.heap.size, 1, none⟩ : Addr) = some (.int .i64 1) := cell_of_cells hil.blk 1
          have m2 : World.cell? _ (⟨W1.heap.size, 2, none⟩ : Addr) = some (.int .i64 2) := cell_of_cells hil.blk 2
          have m3 : World.cell? _ (⟨W1.heap.size, 3, none⟩ : Addr) = some (.int .i64 0) := cell_of_cells hil.blk 3
          have m4 : World.cell? _ (⟨W1.heap.size, 4, none⟩ : Addr) = some (.slice ad k c3) := cell_of_cells hil.blk 4
          have m5 : World.cell? _ (⟨W1.heap.size, 5, none⟩ : Addr) = some (.int .i64 0) := cell_of_cells hil.blk 5
          have m6 : World.cell? _ (⟨W1.heap.size, 6, none⟩ : Addr) = some (.int .i64 0) := cell_of_cells hil.blk 6
          have m7 : World.cell? _ (⟨W1.heap.size, 7, none⟩ : Addr) = some (.int .i64 0) := cell_of_cells hil.blk 7
          have m8 : World.cell? _ (⟨W1.heap.size, 8, none⟩ : Addr) = some (.bool ((i : Int) % 3 == 1)) := cell_of_cells hil.blk 8
          have g5 := free_of_cells hil.blk 5
          have g6 := free_of_cells hil.blk 6
          have g7 := free_of_cells hil.blk 7
          have m66 : World.cell? _ (⟨B6, 0, none⟩ : Addr) = some (.int .i64 (i : Nat)) := (hil.kp.cell (cell_lt c6) (by simp)).trans c6
          have hrowP : ∀ W, Keeps (fun i => i = W1.heap.size) wr W → W.ownsRow 0 44 9 (.slice adv q cv) q (L.flatMap SV.cells) := fun W hW =>
            hW.row (hil.kp.row (by have h := Hpg.out.row; rw [Hq.out] at h; exact h) (by simp)) (fun g hg e => by have := own_lt Hpg.out.row hg; omega)
          have hlP : ∀ W, Keeps (fun i => i = W1.heap.size) wr W → ∀ y ∈ L, W.ownsRow 0 62 3 y.v y.s.lines.length (y.s.lines.flatMap Ln.cells) := fun W hW y hy =>
            hW.row (hil.kp.row (Hpg.out.ln y hy) (by simp)) (fun g hg e => by have := own_lt (Hpg.out.ln y hy) hg; omega)
          have hlN : ∀ W, Keeps (fun i => i = W1.heap.size) wr W → W.ownsRow 0 62 3 (.slice ad k c3) k (((List.range k).map (pageLn x.L)).flatMap Ln.cells) := fun W hW =>
            hW.row hil.row (fun g hg e => by have := hil.nw g hg; omega)
          have hqn : q ≤ 10 := by have := Hli.out; omega
          have q9 := Lib.hid (Hat.out wr (9 : Int) 9 hil.kp (by simp) (by omega))
          have q10 := Lib.hid (Hat.out wr (10 : Int) 10 hil.kp (by simp) (by omega))
          have q11 := Lib.hid (Hat.out wr (11 : Int) 11 hil.kp (by simp) (by omega))
          have Hil := Lib.hid hil; clear hil; have HrowP := Lib.hid hrowP; clear hrowP; have HlP := Lib.hid hlP; clear hlP; have HlN := Lib.hid hlN; clear hlN
          clear b4
          go_wp2_with (first
            | (go_at_call 26; ((with_reducible refine (q9.out).mono ?_); rintro e w2 ⟨rfl, rfl⟩))
            | (go_at_call 26; ((with_reducible refine (q10.out).mono ?_); rintro e w2 ⟨rfl, rfl⟩))
            | (go_at_call 26; ((with_reducible refine (q11.out).mono ?_); rintro e w2 ⟨rfl, rfl⟩))
            | (at_builtin; refine wpList_append_row rfl (.tmp 73) (.tmp 75) 57 rfl 0 44 j0 _ 9 88 Try.underlying57 Hj.out Hj0.out Hj1.out Hj2.out rfl (by decide) (.slice adv q cv) q _ rfl ((HrowP.out _ (((Keeps.setCell (S := fun i => i = W1.heap.size) wr _ _ rfl).trans (Keeps.setCell _ _ _ (.inl rfl))).trans (Keeps.setCell _ _ _ (.inl rfl)))).alloc _) _ 1 _ rfl (Reads.litAt _ _ _ 9 1 _ (by first | rfl | simp) rfl) (by simp [Value.oneCell']) (by unfold maxLen; omega) (by omega) (Nat.zero_le _) ?_))
          intro v6 w6 hown6 hk6 hf6
          have hA : Keeps (fun i => i = W1.heap.size) wr (((wr.setCell ⟨W1.heap.size, 5, none⟩ (.int .i64 (atV x.L 9))).setCell ⟨W1.heap.size, 6, none⟩ (.int .i64 (atV x.L 10))).setCell ⟨W1.heap.size, 7, none⟩ (.int .i64 (atV x.L 11))) :=
            ((Keeps.setCell (S := fun i => i = W1.heap.size) wr _ _ rfl).trans (Keeps.setCell _ _ _ (.inl rfl))).trans (Keeps.setCell _ _ _ (.inl rfl))
          have hkx : Keeps (fun j => (Value.slice adv q cv).ownBlock = some j ∨ W1.heap.size ≤ j) W1 w6 :=
            (((Hil.out.kp.mono (by simp)).trans (hA.mono (fun i _ e => .inr (by omega)))).trans (Keeps.alloc _ _)).trans (hk6.mono fun i _ e => .inl (.inl e))
          have hl0 := (HlN.out _ hA).alloc (.cells #[.int .i64 2, .int .i64 1, .int .i64 2, .int .i64 0, .slice ad k c3, .int .i64 (atV x.L 9), .int .i64 (atV x.L 10), .int .i64 (atV x.L 11), .bool ((i : Int) % 3 == 1)] 44)
          have hp0 := (HrowP.out _ hA).alloc (.cells #[.int .i64 2, .int .i64 1, .int .i64 2, .int .i64 0, .slice ad k c3, .int .i64 (atV x.L 9), .int .i64 (atV x.L 10), .int .i64 (atV x.L 11), .bool ((i : Int) % 3 == 1)] 44)
          have hlx : w6.ownsRow 0 62 3 (.slice ad k c3) k (((List.range k).map (pageLn x.L)).flatMap Ln.cells) :=
            hk6.row hl0 (fun g hg e => rows_ne hl0 hp0 (by decide) hg e)
          have hpg6 : Pages w w6 v6 (L ++ [⟨pageOf k i x.L, ad, c3⟩]) := by
            have hp := Hpg.out
            rw [← Hq.out] at hk6 hf6 hkx hown6
            rw [← Hq.out] at hp
            refine Pages.app hp hkx rfl rfl ?_ ?_ ?_
            · simpa [SV.cells, SV.v, pageOf] using hown6
            · simpa [pageOf, SV.v] using hlx
            · rcases hf6 with e | ⟨g', e, h'⟩
              · exact .inl e
              · exact .inr ⟨g', e, by have := Hil.out.kp.size; try simp at h'
                                      omega⟩
          have hb6A := box_alloc (box_old (box_old Hb6.out Hil.out.kp (by simp)) hA (by omega)) (.cells #[.int .i64 2, .int .i64 1, .int .i64 2, .int .i64 0, .slice ad k c3, .int .i64 (atV x.L 9), .int .i64 (atV x.L 10), .int .i64 (atV x.L 11), .bool ((i : Int) % 3 == 1)] 44)
          have hstA := box_alloc (box_old (box_old Hst.out Hil.out.kp (by simp)) hA (by omega)) (.cells #[.int .i64 2, .int .i64 1, .int .i64 2, .int .i64 0, .slice ad k c3, .int .i64 (atV x.L 9), .int .i64 (atV x.L 10), .int .i64 (atV x.L 11), .bool ((i : Int) % 3 == 1)] 44)
          have hb66 := box_old hb6A hk6 (fun e => ownsRow_ne hp0 hb6A (by decide) e)
          have hst6 := box_old hstA hk6 (fun e => ownsRow_ne hp0 hstA (by decide) e)
          have n66 : w6.cell? ⟨B6, 0, none⟩ = some (.int .i64 (i : Nat)) := cell_of_cells hb66 0
          have l66 := lt_of_block hb66
          have l6w : w.heap.size < w6.heap.size := lt_of_block hst6
          have qi : IntKind.i64.wrap ((i : Int) + 1) = (i : Int) + 1 := IntWalk.i64_in _ ⟨by omega, by omega⟩
          obtain ⟨ad6, cc6, rfl, _, _⟩ := ownsRow_shape hown6
          have Hpg6 := Lib.hid hpg6; clear hpg6; have Hb66 := Lib.hid hb66; clear hb66; have Hst6 := Lib.hid hst6; clear hst6
          clear hown6 hk6 hf6 hA hkx hl0 hp0 hlx hb6A hstA m0 m1 m2 m3 m4 m5 m6 m7 m8 g5 g6 g7
          go_wp2_with fail
          have hlen : (L ++ [(⟨pageOf k i x.L, ad, c3⟩ : SV)]).length = q + 1 := by simp [Hq.out]
          refine ⟨⟨i + 1, L ++ [⟨pageOf k i x.L, ad, c3⟩], w6.heap.size, ad6, cc6, by rw [hlen], rfl, ?_, l6w, ?_, by rw [hlen, Hli.out], ?_, box_alloc Hst6.out _, by omega⟩, ?_⟩
          · have := heap_alloc_new w6 (.cells #[.int .i64 ((i : Int) + 1)] 3); simpa using this
          · rw [hlen]; exact Hpg6.out.keep (Keeps.alloc _ _)
          · intro j y si hy hsi
            by_cases hj : j < q
            · rw [List.getElem?_append_left (by rw [Hq.out]; exact hj)] at hy
              exact Hspec.out j y si hy hsi
            · have hj2 := lt_of_get hy
              rw [hlen] at hj2
              obtain rfl : j = i := by have := Hli.out; omega
              rw [List.getElem?_append_right (by rw [Hq.out, Hli.out]; exact Nat.le_refl _), Hq.out, Hli.out, Nat.sub_self] at hy
              simp only [List.getElem?_cons_zero, Option.some.injEq] at hy
              rw [Hx.out] at hsi
              cases hsi
              rw [← hy]
          · show n - (q + 1) < n - q
            have := Hli.out
            omega
    · obtain rfl : i = n := by omega
      have Hb6 := Lib.hid hb6; clear hb6; have Hpg := Lib.hid hpg; clear hpg; have Hspec := Lib.hid hspec; clear hspec; have Hst := Lib.hid hst; clear hst; have Hq := Lib.hid hq; clear hq; have Hli := Lib.hid hli; clear hli
      go_wp2_with fail
      have hqi := Hli.out
      clear Hli
      subst hqi
      have hpgs : ∀ (j : Nat) (x : SV), L[j]? = some x → ∃ M, x.s = pageOf N j M := fun j x hx => by
        obtain ⟨si, hsi⟩ := get_some (L := S) (k := j) (by have := lt_of_get hx; rw [Hq.out] at this; rw [Hn.out]; exact this)
        exact ⟨_, Hspec.out j x si hx hsi⟩
      have hN4 : N ≤ 4 := by omega
      clear Hb6 c6 l6 l2 c2 Hst Hr HS Hspec h6 hlt hin
      have hq1 : 1 ≤ q := by omega
      have hrow0 : W1.ownsRow 0 44 9 (.slice adv q cv) q (L.flatMap SV.cells) := by have h := Hpg.out.row; rw [Hq.out] at h; exact h
      obtain ⟨g5, c5, he5, hg5⟩ := owns_some hrow0 hq1
      simp only [Value.slice.injEq, true_and] at he5
      obtain ⟨rfl, rfl⟩ := he5
      obtain ⟨_, _, he6, hcv, _⟩ := ownsRow_shape hrow0
      simp only [Value.slice.injEq, true_and] at he6
      obtain ⟨rfl, rfl⟩ := he6
      obtain ⟨x0, hx0⟩ := get_some (L := L) (k := 0) (by rw [Hq.out]; omega)
      obtain ⟨t0, ht, ht0, ht1, ht2⟩ := info_parts info_tAdjust
      have Ht := Lib.hid ht; clear ht; have Ht0 := Lib.hid ht0; clear ht0; have Ht1 := Lib.hid ht1; clear ht1; have Ht2 := Lib.hid ht2; clear ht2; have Hpgs := Lib.hid hpgs; clear hpgs; have Hx0 := Lib.hid hx0; clear hx0
      clear hrow0
      go_loopw [10, 11] (fun a c wx => ∃ (k : Nat) (A : List Adj) (ada : Option Addr) (ca : Nat), 1 ≤ k ∧ k ≤ q ∧ c = .int .i64 (k : Nat) ∧ a = .slice ada A.length ca ∧ wx.ownsRow 0 69 9 (.slice ada A.length ca) A.length (A.flatMap Adj.cells) ∧ Fresh w wx (.slice ada A.length ca) ∧ Pages w wx (.slice (some ⟨g5, 0, none⟩) q cv) L ∧ A.length ≤ k * 1001 ∧ ∀ xk, L[k-1]? = some xk → x0.s.ontos A = (0, xk.s)) (fun _ c _ => q - (intOf c).toNat)
      case atStart => exact ⟨1, [], none, 0, Nat.le_refl _, hq1, rfl, rfl, World.ownsRow_nil _ _ _ _, ⟨Hpg.out.fr.1, by simp [Value.ownBlock]⟩, Hpg.out, by simp, fun xk h => by rw [Hx0.out] at h; cases h; rfl⟩
      case round =>
        obtain ⟨W2, hW2⟩ : ∃ x, x = wr := ⟨_, rfl⟩
        subst hW2
        obtain ⟨k, A, ada, ca, h1k, hkq, rfl, rfl, hrow, hfrs, hpgk, hlen, hon⟩ := hrel
        obtain ⟨m, hm⟩ : ∃ m, A.length = m := ⟨_, rfl⟩
        rw [hm] at hrow hfrs hlen ⊢
        by_cases hlt : k < q
        · have hkI : (k : Int) < (q : Int) := by omega
          obtain ⟨j, hj⟩ : ∃ j, k = j + 1 := ⟨k - 1, by omega⟩
          obtain ⟨x, hx⟩ := get_some (L := L) (k := j) (by rw [Hq.out]; omega)
          obtain ⟨y, hy⟩ := get_some (L := L) (k := k) (by rw [Hq.out]; omega)
          obtain ⟨Mx, hxs⟩ := Hpgs.out j x hx
          obtain ⟨My, hys⟩ := Hpgs.out k y hy
          have hon1 := hon x (by rw [hj]; exact hx)
          have q1 : IntKind.i64.wrap ((k : Int) - 1) = (j : Int) := by rw [show (k : Int) - 1 = (j : Int) by omega]; exact IntWalk.i64_in _ ⟨by omega, by omega⟩
          have q2 : IntKind.i64.wrap ((k : Int) + 1) = ((k + 1 : Nat) : Int) := by rw [IntWalk.i64_in _ ⟨by omega, by omega⟩]; rfl
          have q3 : (k : Int) + 1 ≤ (cv : Int) := by omega
          have q4 : (j : Int) ≤ (k : Int) := by omega
          have q8 : (0 : Int) ≤ (k : Int) + 1 := by omega
          have q9 : ¬ cv = k := by omega
          have q10 : ¬ cv = j := by omega
          have q11 : k - j = 1 := by omega
          have q5 : j ≤ k := by omega
          have q6 : k ≤ cv := by omega
          have q7 : k + 1 ≤ cv := by omega
          clear hon
          have Hrow := Lib.hid hrow; clear hrow; have Hfrs := Lib.hid hfrs; clear hfrs; have Hpgk := Lib.hid hpgk; clear hpgk; have Hlen := Lib.hid hlen; clear hlen; have Hon1 := Lib.hid hon1; clear hon1; have Hx := Lib.hid hx; clear hx; have Hy := Lib.hid hy; clear hy; have Hxs := Lib.hid hxs; clear hxs; have Hys := Lib.hid hys; clear hys; have Hm := Lib.hid hm; clear hm; have Hj := Lib.hid hj; clear hj
          go_wp2_with fail
          refine wp_region_mixw (fun _ => True) (.take 0 (.take 1 (.take 2 (.take 3 (.take 4 (.take 5 (.take 6 (.take 7 (.take 8 (.take 9 (.take 10 (.move 11 (.take 12 (.take 13 (.take 14 (.take 15 (.take 16 .done))))))))))))))))) (by kernel_rfl) (by kernel_rfl) ?_ ?_
          · trivial
          intro w1 hs1 hk1
          repeat (first
            | (refine mix_skip rfl (by rfl) ?_; try simp only [Act.put, List.setIfInBounds_toArray, List.set_cons_zero, List.set_cons_succ])
            | (refine mix_skipm rfl (by rfl) ?_; try simp only [Act.put, List.setIfInBounds_toArray, List.set_cons_zero, List.set_cons_succ])
            | (refine mix_take (v := ?_) rfl (by rfl) ?_ ?_; rotate_left; (· intro w' hSw; (try dsimp only at hSw); go_simp; (try with_reducible rfl)); rotate_right; try simp only [Act.put, List.setIfInBounds_toArray, List.set_cons_zero, List.set_cons_succ]))
          refine mix_move rfl (fun K hK => ?_)
          go_simp
          go_at_call 27
          ((with_reducible refine (between_side (k : Int) (Hpgk.out.keep hk1) Hq.out Hx.out Hy.out Hxs.out Hys.out hN4).mono ?_); rintro e w2 ⟨v2, rfl, hrow2, hfr2⟩; dsimp only)
          refine hK.out _ _ (by trivial) ?_
          clear hK K
          try simp only [Act.put, List.setIfInBounds_toArray, List.set_cons_zero, List.set_cons_succ]
          have hon2 := onto_step (seq := (k : Int)) Hon1.out Hxs.out Hys.out
          have hle : (oneAdj (k : Int) x.s y.s).length ≤ 5 := by
            have h := oneAdj_le (k : Int) x.s y.s
            have h2 : x.s.lines.length = N := by rw [Hxs.out]; simp [pageOf]
            omega
          obtain ⟨A2, hA2⟩ : ∃ A2, oneAdj (k : Int) x.s y.s = A2 := ⟨_, rfl⟩
          rw [hA2] at hrow2 hon2 hle
          clear hA2
          obtain ⟨d, hd⟩ : ∃ d, A2.length = d := ⟨_, rfl⟩
          rw [hd] at hrow2 hle
          obtain ⟨ad2, c2, rfl, _, _⟩ := ownsRow_shape hrow2
          have hk2 : Keeps (fun _ => False) W2 w2 := hk1.trans (hfr2.1.mono (by simp))
          have hpg2 := Hpgk.out.keep hk2
          have hrowA := hk2.row Hrow.out (by simp)
          have hfrA := Hfrs.out.keep hk2
          have hlen2 : m + d ≤ (k + 1) * 1001 := by have := Hlen.out; omega
          have hmd : m + d ≤ 1000000 := by omega
          have Hrow2 := Lib.hid hrow2; clear hrow2; have Hfr2 := Lib.hid hfr2; clear hfr2; have Hon2 := Lib.hid hon2; clear hon2; have Hd := Lib.hid hd; clear hd; have Hpg2 := Lib.hid hpg2; clear hpg2; have HrowA := Lib.hid hrowA; clear hrowA; have HfrA := Lib.hid hfrA; clear hfrA; have Hlen2 := Lib.hid hlen2; clear hlen2; have Hk2 := Lib.hid hk2; clear hk2
          clear hk1
          repeat (first
            | (refine mix_skip rfl (by rfl) ?_; try simp only [Act.put, List.setIfInBounds_toArray, List.set_cons_zero, List.set_cons_succ])
            | (refine mix_skipm rfl (by rfl) ?_; try simp only [Act.put, List.setIfInBounds_toArray, List.set_cons_zero, List.set_cons_succ])
            | (refine mix_take (v := ?_) rfl (by rfl) ?_ ?_; rotate_left; (· intro w' hSw; (try dsimp only at hSw); go_simp; (try with_reducible rfl)); rotate_right; try simp only [Act.put, List.setIfInBounds_toArray, List.set_cons_zero, List.set_cons_succ]))
          refine mix_done ?_
          go_wp2_with (at_builtin; refine wpList_append_row rfl (.tmp 101) (.tmp 102) 63 rfl 0 69 t0 _ 9 72 Try.underlying63 Ht.out Ht0.out Ht1.out Ht2.out rfl (by decide) (.slice ada m ca) m _ rfl HrowA.out _ d _ rfl (Reads.of_owns Hrow2.out) (Adj.one _) (by unfold maxLen; omega) (by omega) (Nat.zero_le _) ?_)
          intro v3 w3 hown3 hk3 hf3
          have hpg3 := Hpg2.out.keepA HrowA.out HfrA.out.2 hk3
          have hfr3 := HfrA.out.app hk3 hf3
          obtain ⟨ad3, c3, rfl, _, _⟩ := ownsRow_shape hown3
          have Hpg3 := Lib.hid hpg3; clear hpg3; have Hfr3 := Lib.hid hfr3; clear hfr3; have Hown3 := Lib.hid hown3; clear hown3
          clear hk3 hf3
          go_wp2_with fail
          have hlenA : (A ++ A2).length = m + d := by rw [List.length_append, Hm.out, Hd.out]
          refine ⟨⟨k + 1, A ++ A2, ad3, c3, by omega, by omega, by go_num, by rw [hlenA], by rw [hlenA, List.flatMap_append]; exact Hown3.out, by rw [hlenA]; exact Hfr3.out, Hpg3.out, by rw [hlenA]; exact Hlen2.out, fun xk hxk => ?_⟩, ?_⟩
          · rw [Nat.add_sub_cancel, Hy.out] at hxk
            cases hxk
            exact Hon2.out
          · simp [intOf]; omega
        · obtain rfl : k = q := by omega
          obtain ⟨l, hl⟩ : ∃ l, k = l + 1 := ⟨k - 1, by omega⟩
          obtain ⟨y, hy⟩ := get_some (L := L) (k := l) (by rw [Hq.out]; omega)
          have hon1 := hon y (by rw [hl]; exact hy)
          obtain ⟨M0, hxs⟩ := Hpgs.out 0 x0 Hx0.out
          obtain ⟨My, hys⟩ := Hpgs.out l y hy
          have hside : ∀ W, Keeps (fun _ => False) W2 W → Calls Try.prog 27 #[.int .i64 1, .slice (some ⟨g5, 0, none⟩) 1 cv, .slice (some ⟨g5, 0, none⟩) 1 cv] W fun e w' => ∃ v, e = .returned (.tuple #[v, .int .i64 0]) ∧ w'.ownsRow 0 69 9 v 0 [] ∧ Fresh W w' v := fun W hW => by
            have h := between_side 1 (hpgk.keep hW) Hq.out Hx0.out Hx0.out hxs hxs hN4
            rw [oneAdj_self, Nat.zero_mul, Nat.sub_zero] at h
            exact h
          have hrw : W2.ownsRow 0 44 9 (.slice (some ⟨g5, 0, none⟩) L.length cv) L.length (L.flatMap SV.cells) := by have h := hpgk.row; rw [Hq.out] at h ⊢; exact h
          have hnx : x0.s.lines.length ≤ 4 := by rw [hxs]; simp [pageOf]; omega
          have hny : y.s.lines.length ≤ 4 := by rw [hys]; simp [pageOf]; omega
          have hlx := hpgk.ln _ (List.mem_of_getElem? Hx0.out)
          have hly := hpgk.ln _ (List.mem_of_getElem? hy)
          have hx0 := Hx0.out
          clear hon Hpgs Hx0
          obtain ⟨⟨a0, a1, a2, a3, a4, a5, a6, a7, la⟩, ad0, cap0⟩ := x0
          obtain ⟨⟨b0, b1, b2, b3, b4, b5, b6, b7, lb⟩, ad1, cap1⟩ := y
          simp only [SV.v] at hlx hly hon1 hnx hny
          have honto := fun W (hW : Keeps (fun _ => False) W2 W) => adjOntoAll_any ⟨a0, a1, a2, a3, a4, a5, a6, a7, la⟩ (.slice ad0 la.length cap0) ada ca A W (Reads.of_owns (hlx.of_keeps hW)) (by rw [hm]; exact Reads.of_owns (hrow.of_keeps hW)) (by simp only; omega) (by omega)
          rw [hm] at honto
          simp only [Stm.val] at honto
          have y0 : W2.cell? ⟨g5, 0 * 9 + 0, none⟩ = some (.int .i64 a0) := owns_elem SV.cells_length hrw hx0 0 (by decide)
          have y1 : W2.cell? ⟨g5, 0 * 9 + 1, none⟩ = some (.int .i64 a1) := owns_elem SV.cells_length hrw hx0 1 (by decide)
          have y2 : W2.cell? ⟨g5, 0 * 9 + 2, none⟩ = some (.int .i64 a2) := owns_elem SV.cells_length hrw hx0 2 (by decide)
          have y3 : W2.cell? ⟨g5, 0 * 9 + 3, none⟩ = some (.int .i64 a3) := owns_elem SV.cells_length hrw hx0 3 (by decide)
          have y4 : W2.cell? ⟨g5, 0 * 9 + 4, none⟩ = some (.slice ad0 la.length cap0) := owns_elem SV.cells_length hrw hx0 4 (by decide)
          have y5 : W2.cell? ⟨g5, 0 * 9 + 5, none⟩ = some (.int .i64 a4) := owns_elem SV.cells_length hrw hx0 5 (by decide)
          have y6 : W2.cell? ⟨g5, 0 * 9 + 6, none⟩ = some (.int .i64 a5) := owns_elem SV.cells_length hrw hx0 6 (by decide)
          have y7 : W2.cell? ⟨g5, 0 * 9 + 7, none⟩ = some (.int .i64 a6) := owns_elem SV.cells_length hrw hx0 7 (by decide)
          have y8 : W2.cell? ⟨g5, 0 * 9 + 8, none⟩ = some (.bool a7) := owns_elem SV.cells_length hrw hx0 8 (by decide)
          have z0 : W2.cell? ⟨g5, l * 9 + 0, none⟩ = some (.int .i64 b0) := owns_elem SV.cells_length hrw hy 0 (by decide)
          have z1 : W2.cell? ⟨g5, l * 9 + 1, none⟩ = some (.int .i64 b1) := owns_elem SV.cells_length hrw hy 1 (by decide)
          have z2 : W2.cell? ⟨g5, l * 9 + 2, none⟩ = some (.int .i64 b2) := owns_elem SV.cells_length hrw hy 2 (by decide)
          have z3 : W2.cell? ⟨g5, l * 9 + 3, none⟩ = some (.int .i64 b3) := owns_elem SV.cells_length hrw hy 3 (by decide)
          have z4 : W2.cell? ⟨g5, l * 9 + 4, none⟩ = some (.slice ad1 lb.length cap1) := owns_elem SV.cells_length hrw hy 4 (by decide)
          have z5 : W2.cell? ⟨g5, l * 9 + 5, none⟩ = some (.int .i64 b4) := owns_elem SV.cells_length hrw hy 5 (by decide)
          have z6 : W2.cell? ⟨g5, l * 9 + 6, none⟩ = some (.int .i64 b5) := owns_elem SV.cells_length hrw hy 6 (by decide)
          have z7 : W2.cell? ⟨g5, l * 9 + 7, none⟩ = some (.int .i64 b6) := owns_elem SV.cells_length hrw hy 7 (by decide)
          have z8 : W2.cell? ⟨g5, l * 9 + 8, none⟩ = some (.bool b7) := owns_elem SV.cells_length hrw hy 8 (by decide)
          simp only [Nat.zero_mul, Nat.zero_add] at y0 y1 y2 y3 y4 y5 y6 y7 y8
          have hz : ∀ W (B : Nat) (v : Value), Keeps (fun _ => False) W2 W → W.heap[B]? = some (.cells #[.int .i64 b0, .int .i64 b1, .int .i64 b2, .int .i64 b3, v, .int .i64 b4, .int .i64 b5, .int .i64 b6, .bool b7] 44 (0, 0)) → OntoS B g5 l b0 b1 b2 b3 b4 b5 b6 b7 v (.slice ad1 lb.length cap1) W := fun W B v hW hB =>
            ⟨cell_of_cells hB 0, cell_of_cells hB 1, cell_of_cells hB 2, cell_of_cells hB 3, cell_of_cells hB 4, cell_of_cells hB 5, cell_of_cells hB 6, cell_of_cells hB 7, cell_of_cells hB 8, (hW.cell (cell_lt z0) (by simp)).trans z0, (hW.cell (cell_lt z1) (by simp)).trans z1, (hW.cell (cell_lt z2) (by simp)).trans z2, (hW.cell (cell_lt z3) (by simp)).trans z3, (hW.cell (cell_lt z4) (by simp)).trans z4, (hW.cell (cell_lt z5) (by simp)).trans z5, (hW.cell (cell_lt z6) (by simp)).trans z6, (hW.cell (cell_lt z7) (by simp)).trans z7, (hW.cell (cell_lt z8) (by simp)).trans z8⟩
          have q1 : IntKind.i64.wrap ((k : Int) - 1) = (l : Int) := by rw [show (k : Int) - 1 = (l : Int) by omega]; exact IntWalk.i64_in _ ⟨by omega, by omega⟩
          have q3 : (l : Int) < (k : Int) := by omega
          have q4 : (0 : Int) < (k : Int) := by omega
          have q5 : (1 : Int) ≤ (cv : Int) := by omega
          have q6 : l < k := by omega
          have q7 : 1 ≤ cv := by omega
          clear z0 z1 z2 z3 z4 z5 z6 z7 z8 hrw hx0 hy hxs hys
          have Hrow := Lib.hid hrow; clear hrow; have Hfrs := Lib.hid hfrs; clear hfrs; have Hpgk := Lib.hid hpgk; clear hpgk; have Hon1 := Lib.hid hon1; clear hon1; have Hm := Lib.hid hm; clear hm; have Hl := Lib.hid hl; clear hl; have Hside := Lib.hid hside; clear hside; have Honto := Lib.hid honto; clear honto; have Hz := Lib.hid hz; clear hz; have Hlx := Lib.hid hlx; clear hlx; have Hly := Lib.hid hly; clear hly
          go_wp2_with fail
          refine (Honto.out _ (Keeps.refl _ _)).mono ?_
          intro e w4 hpost
          obtain ⟨v4, he, hrow4, hk4⟩ := onto_good hpost Hon1.out
          simp only [Stm.val] at he hrow4
          subst he
          obtain ⟨ad4, c4, rfl, _, _⟩ := ownsRow_shape hrow4
          clear hpost y0 y1 y2 y3 y4 y5 y6 y7 y8
          have Hrow4 := Lib.hid hrow4; clear hrow4; have Hk4 := Lib.hid hk4; clear hk4
          go_wp2_with fail
          refine wp_region_mixw (fun _ => True) (.take 0 (.take 1 (.take 2 (.take 3 (.move 4 (.take 5 (.take 6 (.take 7 (.take 8 (.take 9 .done)))))))))) (by kernel_rfl) (by kernel_rfl) ?_ ?_
          · trivial
          intro w5 hs5 hk5
          have hk45 := Keeps.nt Hk4.out (Keeps.nt (Keeps.alloc w4 _) hk5)
          have hb5 := box_old (heap_alloc_new w4 _) hk5 (by simp)
          repeat (first
            | (refine mix_skip rfl (by rfl) ?_; try simp only [Act.put, List.setIfInBounds_toArray, List.set_cons_zero, List.set_cons_succ])
            | (refine mix_skipm rfl (by rfl) ?_; try simp only [Act.put, List.setIfInBounds_toArray, List.set_cons_zero, List.set_cons_succ])
            | (refine mix_take (v := ?_) rfl (by rfl) ?_ ?_; rotate_left; (· intro w' hSw; (try dsimp only at hSw); go_simp; (try with_reducible rfl)); rotate_right; try simp only [Act.put, List.setIfInBounds_toArray, List.set_cons_zero, List.set_cons_succ]))
          refine mix_move rfl (fun K hK => ?_)
          go_simp
          go_at_call 27
          ((with_reducible refine (Hside.out _ hk45).mono ?_); rintro e w6 ⟨v6, rfl, hrow6, hfr6⟩; dsimp only)
          refine hK.out _ _ (by trivial) ?_
          clear hK K
          try simp only [Act.put, List.setIfInBounds_toArray, List.set_cons_zero, List.set_cons_succ]
          have hb6 := box_old hb5 hfr6.1 (by simp)
          have hk6 := Keeps.nt hk45 hfr6.1
          have hs6 := Hz.out _ _ _ hk6 hb6
          have hr4 := ((Hrow4.out.alloc _).of_keeps hk5).of_keeps hfr6.1
          obtain ⟨ad6, c6, rfl, _, _⟩ := ownsRow_shape hrow6
          have Hb6 := Lib.hid hb6; clear hb6; have Hk6 := Lib.hid hk6; clear hk6; have Hs6 := Lib.hid hs6; clear hs6; have Hrow6 := Lib.hid hrow6; clear hrow6; have Hfr6 := Lib.hid hfr6; clear hfr6; have Hr4 := Lib.hid hr4; clear hr4
          clear hk45 hb5 hk5
          repeat (first
            | (refine mix_skip rfl (by rfl) ?_; try simp only [Act.put, List.setIfInBounds_toArray, List.set_cons_zero, List.set_cons_succ])
            | (refine mix_skipm rfl (by rfl) ?_; try simp only [Act.put, List.setIfInBounds_toArray, List.set_cons_zero, List.set_cons_succ])
            | (refine mix_take (v := ?_) rfl (by rfl) ?_ ?_; rotate_left; (· intro w' hSw; (try dsimp only at hSw); go_simp; (try with_reducible rfl)); rotate_right; try simp only [Act.put, List.setIfInBounds_toArray, List.set_cons_zero, List.set_cons_succ]))
          refine mix_done ?_
          go_wp2_with fail
          refine wp_region_mixw (OntoS w4.heap.size g5 l b0 b1 b2 b3 b4 b5 b6 b7 (.slice ad4 lb.length c4) (.slice ad1 lb.length cap1)) (.move 0 (.take 1 (.take 2 (.take 3 (.take 4 (.take 5 (.take 6 (.take 7 (.take 8 (.take 9 (.take 10 (.take 11 (.take 12 (.move 13 (.take 14 (.take 15 (.take 16 (.take 17 (.take 18 (.take 19 (.take 20 (.take 21 (.take 22 (.take 23 (.take 24 .done))))))))))))))))))))))))) (by kernel_rfl) (by kernel_rfl) ?_ ?_
          · exact Hs6.out.keep (Keeps.drew _)
          intro w7 hs7 hk7
          refine mix_move rfl (fun K hK => ?_)
          go_simp
          go_at_call 25
          ((with_reducible refine (awake21_any _).mono ?_); rintro e w8 ⟨rfl, hk8⟩; dsimp only)
          refine hK.out _ _ (by exact OntoS.keep hs7 hk8) ?_
          clear hK K
          try simp only [Act.put, List.setIfInBounds_toArray, List.set_cons_zero, List.set_cons_succ]
          have hs8 := hs7.keep hk8
          have hr8 := Reads.of_owns ((Hr4.out.of_keeps hk7).of_keeps hk8)
          have hk68 := Keeps.nt (Keeps.nt Hk6.out hk7) hk8
          have hl8 := Reads.of_owns (Hly.out.of_keeps hk68)
          clear hs7 hk7 hk8
          have hsame := sameStm_any ⟨b0, b1, b2, b3, b4, b5, b6, b7, lb⟩ (.slice ad4 lb.length c4) (.slice ad1 lb.length cap1) w8 hr8 hl8 (by simp only; omega)
          simp only [Stm.val] at hsame
          clear hr8 hl8
          have Hk68 := Lib.hid hk68; clear hk68; have Hsame := Lib.hid hsame; clear hsame
          repeat (first
            | (refine mix_skip rfl (by rfl) ?_; try simp only [Act.put, List.setIfInBounds_toArray, List.set_cons_zero, List.set_cons_succ])
            | (refine mix_skipm rfl (by rfl) ?_; try simp only [Act.put, List.setIfInBounds_toArray, List.set_cons_zero, List.set_cons_succ])
            | (refine mix_take (v := ?_) rfl (by rfl) ?_ ?_; rotate_left; (· intro w' hSw; unfold OntoS at hSw; go_simp; (try with_reducible rfl)); rotate_right; try simp only [Act.put, List.setIfInBounds_toArray, List.set_cons_zero, List.set_cons_succ]))
          refine mix_move rfl (fun K hK => ?_)
          go_simp
          go_at_call 21
          ((with_reducible refine (Hsame.out).mono ?_); rintro e w9 ⟨rfl, hk9⟩; dsimp only)
          refine hK.out _ _ (by exact OntoS.keep hs8 hk9) ?_
          clear hK K
          try simp only [Act.put, List.setIfInBounds_toArray, List.set_cons_zero, List.set_cons_succ]
          have Hfin := Lib.hid (Keeps.nt (Keeps.nt Hfrs.out.1 Hk68.out) hk9)
          clear hk9 hs8
          repeat (first
            | (refine mix_skip rfl (by rfl) ?_; try simp only [Act.put, List.setIfInBounds_toArray, List.set_cons_zero, List.set_cons_succ])
            | (refine mix_skipm rfl (by rfl) ?_; try simp only [Act.put, List.setIfInBounds_toArray, List.set_cons_zero, List.set_cons_succ])
            | (refine mix_take (v := ?_) rfl (by rfl) ?_ ?_; rotate_left; (· intro w' hSw; unfold OntoS at hSw; go_simp; (try with_reducible rfl)); rotate_right; try simp only [Act.put, List.setIfInBounds_toArray, List.set_cons_zero, List.set_cons_succ]))
          refine mix_done ?_
          go_wp2_with fail
          go_ret
          exact ⟨rfl, Hfin.out.below (fun _ _ h => h) (Nat.le_refl _)⟩
end Go.Proofs.Ythokcmbgamanbaa
